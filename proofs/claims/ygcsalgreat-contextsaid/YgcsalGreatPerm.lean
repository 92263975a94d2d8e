/-
  A region that draws its order: its operations may be listed in another order.
-/
import Derived.Test.YgcsalGreatLaws2
set_option linter.unusedSimpArgs false
namespace Go.Own
def relab (τ : List Nat) (o : Oper) : Oper := { dst := o.dst, op := o.op, type := o.type, pos := o.pos, after := (o.after.toList.map fun e => { on := τ.getD e.on 0, ground := e.ground }).toArray, guard := o.guard }
def permOps (ops : List Oper) (σ τ : List Nat) : List Oper := σ.map fun i => relab τ (ops.getD i default)
def permB (ops : List Oper) (σ τ : List Nat) : Bool :=
  decide (σ.length = ops.length) && decide (τ.length = ops.length) &&
  ((List.range ops.length).all fun i => decide (τ.getD i 0 < ops.length) && decide (σ.getD i 0 < ops.length) && (σ.getD (τ.getD i 0) 0 == i) && (τ.getD (σ.getD i 0) 0 == i)) &&
  (ops.all fun o => o.guard.isNone && o.after.toList.all fun e => !Region.binds .any e || decide (e.on < ops.length))
section
variable {P : Program} {ops : List Oper} {Q : Exit → Act → World → Prop} {σ τ : List Nat}
theorem getD_lt {l : Array Bool} {i : Nat} (h : i < l.size) (b c : Bool) : l.getD i b = l.getD i c := by simp [Array.getD, h]
theorem wpAny_perm (h : permB ops σ τ = true) : ∀ (fuel : Nat) (listed listed' : Array Bool) (a : Act) (w : World), listed.size = ops.length → listed'.size = ops.length →
    (∀ i, i < ops.length → listed'.getD (τ.getD i 0) false = listed.getD i false) → wpAny P .any (permOps ops σ τ).toArray Q fuel listed' a w → wpAny P .any ops.toArray Q fuel listed a w := by
  simp only [permB, Bool.and_eq_true, decide_eq_true_eq, List.all_eq_true, List.mem_range, beq_iff_eq] at h
  obtain ⟨⟨⟨hσ, hτ⟩, hst⟩, hops⟩ := h
  have ht : ∀ i, i < ops.length → τ.getD i 0 < ops.length := fun i hi => (hst i hi).1.1.1
  have hs : ∀ i, i < ops.length → σ.getD i 0 < ops.length := fun i hi => (hst i hi).1.1.2
  have h1 : ∀ i, i < ops.length → σ.getD (τ.getD i 0) 0 = i := fun i hi => (hst i hi).1.2
  have h2 : ∀ i, i < ops.length → τ.getD (σ.getD i 0) 0 = i := fun i hi => (hst i hi).2
  have hlen : (permOps ops σ τ).length = ops.length := by simp [permOps, hσ]
  have hget : ∀ i o, ops[i]? = some o → (permOps ops σ τ)[τ.getD i 0]? = some (relab τ o) := by
    intro i o ho
    have hi := (List.getElem?_eq_some_iff.1 ho).1
    have hti := ht i hi
    have e : σ[τ.getD i 0]? = some i := by
      rw [List.getElem?_eq_getElem (by omega)]
      have := h1 i hi
      rw [List.getD_eq_getElem?_getD, List.getElem?_eq_getElem (by omega)] at this
      simpa using this
    simp only [permOps, List.getElem?_map, e, Option.map_some]
    rw [List.getD_eq_getElem?_getD, ho]
    rfl
  have hex : ∀ (o : Oper) (ρ : Operand → Value), execOp ρ (relab τ o) = execOp ρ o := fun o ρ => by
    cases o; rfl
  intro fuel
  induction fuel with
  | zero =>
    intro listed listed' a w hl hl' hrel hw
    obtain ⟨hr, hq⟩ := hw
    refine ⟨?_, hq⟩
    refine List.eq_nil_iff_forall_not_mem.2 fun i hi => ?_
    obtain ⟨hi1, o, ho, hi2⟩ := mem_ready.1 hi
    simp only [List.getElem?_toArray] at ho
    have hin := (List.getElem?_eq_some_iff.1 ho).1
    have hti := ht i hin
    have : τ.getD i 0 ∈ Region.ready .any (permOps ops σ τ).toArray listed' := by
      refine mem_ready.2 ⟨?_, relab τ o, by simpa using hget i o ho, ?_⟩
      · rw [getD_lt (by omega) true false, hrel i hin, getD_lt (by omega) false true]; exact hi1
      · intro e he hb
        simp only [relab, List.mem_toArray, List.mem_map] at he
        obtain ⟨e', he', rfl⟩ := he
        have hb' : Region.binds .any e' = true := hb
        have hon : e'.on < ops.length := by
          have := (hops o (List.mem_of_getElem? ho)).2 e' he'
          simpa [hb'] using this
        simp only
        rw [hrel _ hon]
        exact hi2 e' (by simpa using he') hb'
    rw [hr] at this
    simp at this
  | succ fuel ih =>
    intro listed listed' a w hl hl' hrel hw
    obtain ⟨hw1, hw2⟩ := hw
    have hmap : ∀ i o, ops[i]? = some o → i ∈ Region.ready .any ops.toArray listed → τ.getD i 0 ∈ Region.ready .any (permOps ops σ τ).toArray listed' := by
      intro i o ho hi
      obtain ⟨hi1, o', ho', hi2⟩ := mem_ready.1 hi
      simp only [List.getElem?_toArray] at ho'
      rw [ho] at ho'
      obtain rfl : o = o' := by simpa using ho'
      have hin := (List.getElem?_eq_some_iff.1 ho).1
      have hti := ht i hin
      refine mem_ready.2 ⟨?_, relab τ o, by simpa using hget i o ho, ?_⟩
      · rw [getD_lt (by omega) true false, hrel i hin, getD_lt (by omega) false true]; exact hi1
      · intro e he hb
        simp only [relab, List.mem_toArray, List.mem_map] at he
        obtain ⟨e', he', rfl⟩ := he
        have hb' : Region.binds .any e' = true := hb
        have hon : e'.on < ops.length := by
          have := (hops o (List.mem_of_getElem? ho)).2 e' he'
          simpa [hb'] using this
        simp only
        rw [hrel _ hon]
        exact hi2 e' (by simpa using he') hb'
    refine ⟨fun hr => hw1 ?_, fun i hi => ?_⟩
    · refine List.eq_nil_iff_forall_not_mem.2 fun j hj => ?_
      obtain ⟨hj1, o, ho, hj2⟩ := mem_ready.1 hj
      simp only [List.getElem?_toArray] at ho
      have hjn := (List.getElem?_eq_some_iff.1 ho).1
      rw [hlen] at hjn
      have hsj := hs j hjn
      have hoi : ops[σ.getD j 0]? = some ops[σ.getD j 0] := List.getElem?_eq_getElem hsj
      have hg := hget _ _ hoi
      rw [h2 j hjn, ho] at hg
      obtain rfl : o = relab τ ops[σ.getD j 0] := by simpa using hg
      have hmem : σ.getD j 0 ∈ Region.ready .any ops.toArray listed := by
        refine mem_ready.2 ⟨?_, ops[σ.getD j 0], (by rw [List.getElem?_toArray]; exact hoi), ?_⟩
        · have := hrel _ hsj
          rw [h2 j hjn] at this
          rw [getD_lt (by omega) true false, ← this, getD_lt (by omega) false true]; exact hj1
        · intro e he hb
          have hon : e.on < ops.length := by
            have := (hops _ (List.mem_of_getElem? hoi)).2 e (by simpa using he)
            simpa [hb] using this
          rw [← hrel _ hon]
          exact hj2 { on := τ.getD e.on 0, ground := e.ground } (by simp only [relab, List.mem_toArray, List.mem_map]; exact ⟨e, by simpa using he, rfl⟩) hb
      rw [hr] at hmem
      simp at hmem
    · obtain ⟨hi1, o, ho, hi2⟩ := mem_ready.1 hi
      simp only [List.getElem?_toArray] at ho
      have hin := (List.getElem?_eq_some_iff.1 ho).1
      have hti := ht i hin
      have hstep := hw2 _ (hmap i o ho hi)
      have hgn : o.guard = none := by have := (hops o (List.mem_of_getElem? ho)).1; simpa using this
      have hnext : ∀ a w, wpAny P .any (permOps ops σ τ).toArray Q fuel (listed'.setIfInBounds (τ.getD i 0) true) a w → wpAny P .any ops.toArray Q fuel (listed.setIfInBounds i true) a w := by
        intro a w hh
        refine ih _ _ a w (by simpa using hl) (by simpa using hl') ?_ hh
        intro k hk
        have htk := ht k hk
        by_cases hki : k = i
        · subst hki
          rw [Array.getD_eq_getD_getElem?, Array.getD_eq_getD_getElem?, Array.getElem?_setIfInBounds_self_of_lt (by omega), Array.getElem?_setIfInBounds_self_of_lt (by omega)]
        · have hne : τ.getD k 0 ≠ τ.getD i 0 := fun hh => hki (by rw [← h1 k hk, ← h1 i hin, hh])
          have := hrel k hk
          rw [Array.getD_eq_getD_getElem?, Array.getD_eq_getD_getElem?] at this ⊢
          rw [Array.getElem?_setIfInBounds_ne (Ne.symm hne), Array.getElem?_setIfInBounds_ne (Ne.symm hki)]
          exact this
      have hg' := hget i o ho
      unfold wpOp at hstep ⊢
      simp only [List.getElem?_toArray, hg', ho] at hstep ⊢
      have hwn : Region.wanted o (yielded ops.toArray a.tmps) = true := by simp [Region.wanted, hgn]
      have hwn' : Region.wanted (relab τ o) (yielded (permOps ops σ τ).toArray a.tmps) = true := by simp [Region.wanted, relab, hgn]
      rw [if_pos hwn'] at hstep
      rw [if_pos hwn]
      rcases hstep with hstep | ⟨hask, hl2⟩
      · left
        refine Oper.wp_mono hnext ?_
        have e : (relab τ o).wp P a w (wpAny P .any (permOps ops σ τ).toArray Q fuel (listed'.setIfInBounds (τ.getD i 0) true)) Q =
            o.wp P a w (wpAny P .any (permOps ops σ τ).toArray Q fuel (listed'.setIfInBounds (τ.getD i 0) true)) Q := by cases o; rfl
        rw [← e]; exact hstep
      · right
        have e : (relab τ o).asks P a w = o.asks P a w := by cases o; rfl
        rw [e] at hask
        exact ⟨hask, hl2⟩
theorem S_perm {a : Act} {w : World} (σ τ : List Nat) (h : permB ops σ τ = true)
    (hw : wpAny P .any (permOps ops σ τ).toArray Q ((permOps ops σ τ).length - 0) (upTo 0 (permOps ops σ τ).length) a w) :
    wpAny P .any ops.toArray Q (ops.length - 0) (upTo 0 ops.length) a w := by
  have hlen : (permOps ops σ τ).length = ops.length := by
    simp only [permB, Bool.and_eq_true, decide_eq_true_eq] at h
    simp [permOps, h.1.1.1]
  rw [hlen] at hw
  refine wpAny_perm h _ _ _ a w (upTo_size _ _) (upTo_size _ _) (fun i hi => ?_) hw
  rw [upTo_getD_false (by omega), upTo_getD_false (by omega)]
  simp
theorem V_stage {w0 : World} {X : List Nat} {L : List (Nat × Obj)} {a : Act} {w : World} (m m1 m2 : Nat) (z : Nat → Obj) (hB : stageB ops m m2 = true) (hm : m ≤ m1) (hm1 : m1 ≤ m2) (hz : allocsB P ops z m1 m2) (M : Mem w0 X L w)
    (h : LexV P w0 X L ops.toArray (fun a1 => ∀ (bl : Nat → Nat) (w' : World), (∀ i, m1 ≤ i → i < m2 → w0.heap.size ≤ bl i) → Mem w0 X (newRows z bl (List.range' m1 (m2 - m1)) ++ L) w' →
      wpAny P .any ops.toArray Q (ops.length - m2) (upTo m2 ops.length) (puts ops (fun i => .pointer (some ⟨bl i, 0, none⟩)) (fun _ => true) (List.range' m1 (m2 - m1)) a1) w') ((ops.drop m).take (m1 - m)) a) :
    wpAny P .any ops.toArray Q (ops.length - m) (upTo m ops.length) a w := S_stage hB hm hm1 hz M h.out
end
end Go.Own

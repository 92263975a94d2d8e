/-
  A region that draws its order: an operation that reads no memory and waits for none but those ahead of it may be taken as done first.
-/
import Derived.Test.YgcsalGreatLate
set_option linter.unusedSimpArgs false
namespace Go.Own
def hoistB (ops : List Oper) (i : Nat) : Bool :=
  match ops[i]? with
  | none => false
  | some oi =>
    Region.noSelect ops.toArray && oi.after.toList.all (fun e => !Region.binds .any e || decide (e.on < i)) &&
    (match oi.dst with
     | none => false
     | some d => ops.zipIdx.all fun p => p.1.guard.isNone && (p.1.after.toList.all fun e => !isText e || e.on != i) && (p.2 == i ||
        (p.1.dst != some d && (!(p.1.looksAt ops.toArray).contains d || onB p.1 i) &&
         (match p.1.dst with | some t => !(oi.looksAt ops.toArray).contains t || onB oi p.2 | none => true))))
section
variable {P : Program} {ops : List Oper} {Q : Exit → Act → World → Prop}
theorem hoist_main {i d : Nat} {oi : Oper} (hi : ops[i]? = some oi) (hno : ∀ (j : Nat) (o : Oper), ops[j]? = some o → ∀ e ∈ o.after, isText e = true → e.on ≠ i) (hdst : oi.dst = some d) (hsel : Region.noSelect ops.toArray = true)
    (hg : ∀ (j : Nat) (o : Oper), ops[j]? = some o → o.guard = none) (h1 : ∀ (j : Nat) (o : Oper), ops[j]? = some o → j ≠ i → o.dst ≠ some d)
    (h2 : ∀ (j : Nat) (o : Oper), ops[j]? = some o → j ≠ i → d ∈ o.looksAt ops.toArray → ∃ e ∈ o.after, Region.binds .any e = true ∧ e.on = i)
    (h3 : ∀ (j : Nat) (o : Oper), ops[j]? = some o → j ≠ i → ∀ t, o.dst = some t → t ∈ oi.looksAt ops.toArray → ∃ e ∈ oi.after, Region.binds .any e = true ∧ e.on = j) :
    ∀ f, (∀ listed a w, listed.size = ops.length → wpAny P .any (ops.map (bind1 i)).toArray (Nrml Q) f listed a w → wpAny P .any ops.toArray (Nrml Q) f listed a w) ∧
      (∀ listed a w v, listed.size = ops.length → listed.getD i true = false → (∀ e ∈ oi.after, Region.binds .any e = true → listed.getD e.on false = true) → (∀ w, (execOp a.eval oi).run P w = .ok (.value v) w) →
        wpAny P .any (ops.map (bind1 i)).toArray (Nrml Q) f (listed.setIfInBounds i true) (a.put (some d) v) w → wpAny P .any ops.toArray (Nrml Q) (f + 1) listed a w) := by
  have hin : i < ops.length := (List.getElem?_eq_some_iff.1 hi).1
  have hTF : ∀ (listed : Array Bool) (j : Nat), listed.size = ops.length → j < ops.length → listed.getD j true = listed.getD j false := fun listed j hs hj => getD_lt (by omega) _ _
  have hsub : ∀ (listed : Array Bool) j, j ∈ Region.ready .any (ops.map (bind1 i)).toArray listed → j ∈ Region.ready .any ops.toArray listed := by
    intro listed j hj
    obtain ⟨a1, o, a2, a3⟩ := ready2_iff.1 hj
    exact mem_ready.2 ⟨a1, o, by simpa using a2, fun e he hb => a3 e he (Or.inl hb)⟩
  have hup : ∀ (listed : Array Bool) j, listed.size = ops.length → j ∈ Region.ready .any ops.toArray listed → j ≠ i → j ∈ Region.ready .any (ops.map (bind1 i)).toArray (listed.setIfInBounds i true) := by
    intro listed j hs hj hji
    obtain ⟨a1, o, a2, a3⟩ := mem_ready.1 hj
    simp only [List.getElem?_toArray] at a2
    refine ready2_iff.2 ⟨by rw [set_getD (by omega), if_neg (Ne.symm hji)]; exact a1, o, a2, fun e he hb => ?_⟩
    rw [set_getD (by omega)]
    by_cases hei : i = e.on
    · rw [if_pos hei]
    · rw [if_neg hei]
      exact a3 e he (hb.resolve_right fun h => hei h.2.symm)
  have hcase : ∀ (listed : Array Bool) j, j ∈ Region.ready .any ops.toArray listed → j ∈ Region.ready .any (ops.map (bind1 i)).toArray listed := by
    intro listed j hj
    obtain ⟨a1, o, a2, a3⟩ := mem_ready.1 hj
    simp only [List.getElem?_toArray] at a2
    exact ready2_iff.2 ⟨a1, o, a2, fun e he hb => hb.elim (a3 e he) fun h => absurd h.2 (hno j o a2 e he h.1)⟩
  intro f
  induction f using Nat.strongRecOn with
  | _ f ih =>
    have htrans : ∀ (f' : Nat), f' < f → ∀ (listed : Array Bool) (a : Act) (w : World) (v : Value) (j : Nat), listed.size = ops.length → j ∈ Region.ready .any ops.toArray listed → j ≠ i → listed.getD i true = false →
        (∀ e ∈ oi.after, Region.binds .any e = true → listed.getD e.on false = true) → (∀ w, (execOp a.eval oi).run P w = .ok (.value v) w) →
        wpOp P (ops.map (bind1 i)).toArray (Nrml Q) j (wpAny P .any (ops.map (bind1 i)).toArray (Nrml Q) f' ((listed.setIfInBounds i true).setIfInBounds j true)) (a.put (some d) v) w →
        wpOp P ops.toArray (Nrml Q) j (wpAny P .any ops.toArray (Nrml Q) (f' + 1) (listed.setIfInBounds j true)) a w := by
      intro f' hf' listed a w v j hs hj hji hiu hpr hpure hw
      obtain ⟨a1, o, a2, a3⟩ := mem_ready.1 hj
      simp only [List.getElem?_toArray] at a2
      have hjn : j < ops.length := (List.getElem?_eq_some_iff.1 a2).1
      have hiu' : listed.getD i false = false := by rw [← hTF _ _ hs hin]; exact hiu
      have hju : listed.getD j false = false := by rw [← hTF _ _ hs hjn]; exact a1
      have hwp := wpOp_bind1 a2 (hg j o a2) hw
      refine wpOp_of_wp a2 (hg j o a2) (wp_transfer (d := some d) (v := v) ?_ ?_ ?_ hwp)
      · exact execOp_put (ops := ops.toArray) o (fun cs b => Region.noSelect_spec hsel j o cs b (by simpa using a2)) a (some d) v (fun d' hd' hl => by
          obtain rfl : d = d' := by simpa using hd'
          obtain ⟨e, he, hb, h⟩ := h2 j o a2 hji hl
          have := a3 e he hb
          rw [h, hiu'] at this
          cases this)
      · intro t ht h
        obtain rfl : d = t := by simpa using ht
        exact h1 j o a2 hji h
      · intro dd u w' hk2
        refine (ih f' hf').2 (listed.setIfInBounds j true) _ w' v (by simpa using hs) ?_ ?_ ?_ ?_
        · rw [set_getD (by omega), if_neg hji]; exact hiu
        · intro e he hb
          rw [set_getD (by omega)]
          split
          · rfl
          · exact hpr e he hb
        · intro w''
          have e : execOp (({ a with defers := dd } : Act).put o.dst u).eval oi = execOp ({ a with defers := dd } : Act).eval oi :=
            execOp_put (ops := ops.toArray) oi (fun cs b => Region.noSelect_spec hsel i oi cs b (by simpa using hi)) _ o.dst u (fun t ht hl => by
              obtain ⟨e, he, hb, h⟩ := h3 j o a2 hji t ht hl
              have := hpr e he hb
              rw [h, hju] at this
              cases this)
          rw [e]
          exact hpure w''
        · rw [Array.setIfInBounds_comm _ _ hji]
          exact hk2
    have part1 : ∀ listed a w, listed.size = ops.length → wpAny P .any (ops.map (bind1 i)).toArray (Nrml Q) f listed a w → wpAny P .any ops.toArray (Nrml Q) f listed a w := by
      intro listed a w hs hw
      cases f with
      | zero =>
        obtain ⟨hr, hq⟩ := hw
        refine ⟨List.eq_nil_iff_forall_not_mem.2 fun j hj => ?_, hq⟩
        have h := hcase listed j hj
        rw [hr] at h; simp at h
      | succ f =>
        obtain ⟨hw1, hw2⟩ := hw
        refine ⟨fun hr => hw1 (List.eq_nil_iff_forall_not_mem.2 fun j hj => by have := hsub _ _ hj; rw [hr] at this; simp at this), fun j hj => ?_⟩
        obtain ⟨a1, o, a2, a3⟩ := mem_ready.1 hj
        simp only [List.getElem?_toArray] at a2
        have h := hcase listed j hj
        have hwp := wpOp_bind1 a2 (hg j o a2) (hw2 j h)
        exact wpOp_of_wp a2 (hg j o a2) (Oper.wp_mono (fun a w hh => (ih f (Nat.lt_succ_self f)).1 _ a w (by simpa using hs) hh) hwp)
    refine ⟨part1, ?_⟩
    intro listed a w v hs hiu hpr hpure hw
    have hir : i ∈ Region.ready .any ops.toArray listed := mem_ready.2 ⟨hiu, oi, by simpa using hi, hpr⟩
    refine ⟨fun hr => (by rw [hr] at hir; simp at hir), fun j hj => ?_⟩
    by_cases hji : j = i
    · subst hji
      refine S_val hi (hg _ oi hi) (hpure w) ?_
      rw [hdst]
      exact part1 _ _ _ (by simpa using hs) hw
    · have hj2 := hup listed j hs hj hji
      cases f with
      | zero => rw [hw.1] at hj2; simp at hj2
      | succ f' => exact htrans f' (by omega) listed a w v j hs hj hji hiu hpr hpure (hw.2 j hj2)
theorem S_hoist {a : Act} {w : World} {oi : Oper} {v : Value} (i : Nat) (hi : ops[i]? = some oi) (h : hoistB ops i = true) (hpure : ∀ w, (execOp a.eval oi).run P w = .ok (.value v) w)
    (hw : wpAny P .any ops.toArray (Nrml Q) (ops.length - (i + 1)) (upTo (i + 1) ops.length) (a.put oi.dst v) w) :
    wpAny P .any ops.toArray (Nrml Q) (ops.length - i) (upTo i ops.length) a w := by
  unfold hoistB at h
  simp only [hi, Bool.and_eq_true] at h
  obtain ⟨⟨hsel, hpr⟩, hrest⟩ := h
  have hin : i < ops.length := (List.getElem?_eq_some_iff.1 hi).1
  cases hd : oi.dst with
  | none => simp [hd] at hrest
  | some d =>
    simp only [hd, List.all_eq_true, Bool.and_eq_true] at hrest
    rw [hd] at hw
    have hall : ∀ (j : Nat) (o : Oper), ops[j]? = some o → _ := fun j o ho => hrest (o, j) (List.mem_zipIdx_iff_getElem?.2 (by simpa using ho))
    have hne : ∀ (j : Nat) (o : Oper), ops[j]? = some o → j ≠ i → _ := fun j o ho hji => (Bool.or_eq_true_iff.1 (hall j o ho).2).resolve_left (by simpa using hji)
    simp only [Bool.and_eq_true] at hne
    have hno : ∀ (j : Nat) (o : Oper), ops[j]? = some o → ∀ e ∈ o.after, isText e = true → e.on ≠ i := fun j o ho e he ht => by
      have := (hall j o ho).1.2 e (by simpa using he)
      simpa [ht] using this
    have hmap : ops.map (bind1 i) = ops := by
      apply List.ext_getElem?
      intro j
      cases ho : ops[j]? with
      | none => simp [ho]
      | some o =>
        simp only [List.getElem?_map, ho, Option.map_some, Option.some.injEq]
        have : o.after.toList.map (bindE i) = o.after.toList := by
          conv => rhs; rw [← List.map_id o.after.toList]
          refine List.map_congr_left fun e he => ?_
          unfold bindE
          rw [if_neg]
          · rfl
          · intro hb
            simp only [Bool.and_eq_true, beq_iff_eq] at hb
            exact hno j o ho e (by simpa using he) hb.2 hb.1
        cases o
        simp only [bind1] at *
        rw [this]
    have hs : upTo (i + 1) ops.length = (upTo i ops.length).setIfInBounds i true := (upTo_set hin).symm
    rw [hs] at hw
    rw [show ops.length - i = (ops.length - (i + 1)) + 1 from by omega]
    refine (hoist_main (P := P) (Q := Q) hi hno hd hsel (fun j o ho => by simpa using (hall j o ho).1.1)
      (fun j o ho hji => by have := (hne j o ho hji).1.1; simpa using this) ?_ ?_ _).2 _ a w v (upTo_size _ _) (by rw [upTo_getD hin]; simp) ?_ hpure (by rw [hmap]; exact hw)
    · intro j o ho hji hl
      have := (hne j o ho hji).1.2
      rw [Bool.or_eq_true] at this
      exact onB_iff.1 (this.resolve_left (by simp; exact hl))
    · intro j o ho hji t ht hl
      have := (hne j o ho hji).2
      simp only [ht, Bool.or_eq_true] at this
      exact onB_iff.1 (this.resolve_left (by simp; exact hl))
    · intro e he hb
      have := List.all_eq_true.1 hpr e (by simpa using he)
      simp only [hb, Bool.not_true, Bool.false_or, decide_eq_true_eq] at this
      rw [upTo_getD_false (by omega)]
      simpa using this
end
end Go.Own

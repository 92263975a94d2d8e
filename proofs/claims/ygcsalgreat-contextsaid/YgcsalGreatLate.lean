/-
  A region that draws its order: an 'extract' that a later store need not wait for may be taken as done ahead of it.
-/
import Derived.Test.YgcsalGreatPerm
set_option linter.unusedSimpArgs false
namespace Go.Own
def isText (e : Edge) : Bool := match e.ground with | .textOnly _ => true | _ => false
def bindE (i : Nat) (e : Edge) : Edge := if e.on == i && isText e then { on := e.on, ground := .phase } else e
def bind1 (i : Nat) (o : Oper) : Oper := { dst := o.dst, op := o.op, type := o.type, pos := o.pos, after := (o.after.toList.map (bindE i)).toArray, guard := o.guard }
def onB (o : Oper) (k : Nat) : Bool := o.after.toList.any fun e => Region.binds .any e && e.on == k
def lateB (ops : List Oper) (i : Nat) : Bool :=
  match ops[i]? with
  | none => false
  | some oi =>
    (match oi.op with | .extract _ _ => true | _ => false) && oi.guard.isNone && Region.noSelect ops.toArray && oi.after.toList.all (fun e => e.on != i) &&
    (match oi.dst with
     | none => false
     | some d => ops.zipIdx.all fun p => p.1.guard.isNone && (p.2 == i ||
        (p.1.dst != some d && (!(p.1.looksAt ops.toArray).contains d || onB p.1 i) &&
         (match p.1.dst with | some t => !(oi.looksAt ops.toArray).contains t || onB oi p.2 | none => true) &&
         (!(p.1.after.toList.any fun e => isText e && e.on == i) || oi.after.toList.all fun e => !Region.binds .any e || onB p.1 e.on))))
/-- Only the normal end counts. -/
def Nrml (Q : Exit → Act → World → Prop) : Exit → Act → World → Prop := fun e a w => e = .normal ∧ Q e a w
section
variable {P : Program} {ops : List Oper} {Q : Exit → Act → World → Prop}
theorem wp_nrml {o : Oper} {a : Act} {w : World} {K K' : Act → World → Prop} (h : ∀ a w, K a w → K' a w) (hh : o.wp P a w K (Nrml Q)) : o.wp P a w K' Q := by
  unfold Oper.wp at *
  generalize (execOp a.eval o).run P w = r at *
  cases r with
  | ok n w' =>
    cases n <;> simp only [Oper.upon] at hh ⊢ <;>
      first
        | exact h _ _ hh
        | exact Calls.mono hh (fun e w'' he => by
            cases e
            · exact h _ _ he
            · exact absurd he.1 (by simp)
            · obtain ⟨_, _, he⟩ := he; exact absurd he.1 (by simp))
        | exact Rows.mono hh (fun _ _ he => h _ _ he)
  | halt x w' => cases x <;> simp only [Oper.upon] at hh ⊢ <;> first | exact absurd hh.1 (by simp) | exact hh
theorem no_lets : ¬ LetsOut (Nrml Q) := by rintro ⟨_, _, h⟩; exact absurd h.1 (by simp)
theorem wpOp_nrml {i : Nat} {a : Act} {w : World} {K K' : Act → World → Prop} {A : Array Oper} (h : ∀ a w, K a w → K' a w) (hh : wpOp P A (Nrml Q) i K a w) : wpOp P A Q i K' a w := by
  unfold wpOp at *
  split
  · rename_i ho; simp only [ho] at hh; exact h _ _ hh
  · rename_i o ho
    simp only [ho] at hh
    split
    · rename_i hw
      simp only [hw, if_true] at hh
      rcases hh with hh | hh
      · exact .inl (wp_nrml h hh)
      · exact absurd hh.2 no_lets
    · rename_i hw; simp only [hw] at hh; exact h _ _ hh
theorem wpAny_nrml {A : Array Oper} : ∀ (fuel : Nat) (listed : Array Bool) (a : Act) (w : World), wpAny P .any A (Nrml Q) fuel listed a w → wpAny P .any A Q fuel listed a w
  | 0, _, _, _, h => ⟨h.1, h.2.2⟩
  | fuel + 1, _, _, _, h => ⟨fun hr => (h.1 hr).2, fun i hi => wpOp_nrml (fun a w => wpAny_nrml fuel _ a w) (h.2 i hi)⟩
theorem S_nrml {a : Act} {w : World} {m : Nat} (h : wpAny P .any ops.toArray (Nrml Q) (ops.length - m) (upTo m ops.length) a w) : wpAny P .any ops.toArray Q (ops.length - m) (upTo m ops.length) a w := wpAny_nrml _ _ _ _ h
theorem extract_pure {o : Oper} {x : Operand} {k : Nat} {a : Act} {w : World} {K : Act → World → Prop} (ho : o.op = .extract x k) (h : o.wp P a w K (Nrml Q)) :
    ∃ v, (∀ w, (execOp a.eval o).run P w = .ok (.value v) w) ∧ K (a.put o.dst v) w := by
  unfold Oper.wp at h
  have e : execOp a.eval o = (do pure (.value (← Instr.extract (a.eval x) k)) : Sem Next) := by unfold execOp; rw [ho]
  rw [e] at h ⊢
  unfold Instr.extract at h ⊢
  cases hx : a.eval x with
  | tuple vs =>
    simp only [hx] at h ⊢
    cases hv : vs[k]? with
    | none => simp [hv, stuck, Sem.run, Oper.upon] at h
    | some v =>
      simp only [hv] at h ⊢
      exact ⟨v, fun w => rfl, h⟩
  | _ => simp [hx, stuck, Sem.run, Oper.upon] at h
theorem put_defers (a : Act) (d : Option Tmp) (v : Value) : (a.put d v).defers = a.defers := by cases d <;> rfl
theorem put_swap {a : Act} {d d' : Option Tmp} {v u : Value} {dd : List Deferred} (h : ∀ t, d = some t → d' ≠ some t) : ({ (a.put d v) with defers := dd } : Act).put d' u = (({ a with defers := dd } : Act).put d' u).put d v := by
  rw [Act.put_comm _ u v (fun t ht ht' => h t ht' ht)]
  congr 1
  cases d <;> rfl
theorem wp_transfer {o : Oper} {a : Act} {d : Option Tmp} {v : Value} {w : World} {K K2 : Act → World → Prop} (hex : execOp (a.put d v).eval o = execOp a.eval o) (hd : ∀ t, d = some t → o.dst ≠ some t)
    (hK : ∀ dd u w', K2 ((({ a with defers := dd } : Act).put o.dst u).put d v) w' → K (({ a with defers := dd } : Act).put o.dst u) w') (h : o.wp P (a.put d v) w K2 (Nrml Q)) : o.wp P a w K (Nrml Q) := by
  unfold Oper.wp at *
  rw [hex] at h
  have hput : ∀ u, (a.put d v).put o.dst u = (({ a with defers := a.defers } : Act).put o.dst u).put d v := fun u => Act.put_comm a v u hd
  generalize (execOp a.eval o).run P w = r at *
  cases r with
  | ok n w' =>
    cases n <;> simp only [Oper.upon] at h ⊢
    case value u => rw [hput] at h; exact hK _ _ _ h
    case skip => rw [hput] at h; exact hK _ _ _ h
    case defer dfr => rw [put_defers, put_swap hd] at h; exact hK _ _ _ h
    case enter f args =>
      refine Calls.mono h (fun e w'' he => ?_)
      cases e
      · simp only at he; rw [hput] at he; exact hK _ _ _ he
      · exact absurd he.1 (by simp)
      · obtain ⟨_, _, he⟩ := he; exact absurd he.1 (by simp)
    case row row args =>
      refine Rows.mono h (fun u w'' he => ?_)
      rw [hput] at he; exact hK _ _ _ he
  | halt x w' => cases x <;> simp only [Oper.upon] at h ⊢ <;> first | exact absurd h.1 (by simp) | exact h

theorem bindE_iff {i : Nat} {e : Edge} : Region.binds .any (bindE i e) = true ↔ Region.binds .any e = true ∨ (isText e = true ∧ e.on = i) := by
  unfold bindE
  by_cases h : (e.on == i && isText e) = true
  · rw [if_pos h]
    simp only [Bool.and_eq_true, beq_iff_eq] at h
    exact ⟨fun _ => Or.inr ⟨h.2, h.1⟩, fun _ => rfl⟩
  · rw [if_neg h]
    simp only [Bool.and_eq_true, beq_iff_eq] at h
    exact ⟨Or.inl, fun h' => h'.resolve_right fun h'' => h ⟨h''.2, h''.1⟩⟩
theorem bindE_on {i : Nat} {e : Edge} : (bindE i e).on = e.on := by unfold bindE; split <;> rfl
theorem ready2_iff {i j : Nat} {listed : Array Bool} : j ∈ Region.ready .any (ops.map (bind1 i)).toArray listed ↔
    listed.getD j true = false ∧ ∃ o, ops[j]? = some o ∧ ∀ e ∈ o.after, (Region.binds .any e = true ∨ (isText e = true ∧ e.on = i)) → listed.getD e.on false = true := by
  rw [mem_ready]
  refine and_congr_right fun _ => ?_
  constructor
  · rintro ⟨o, ho, h⟩
    simp only [List.getElem?_toArray, List.getElem?_map, Option.map_eq_some_iff] at ho
    obtain ⟨o', ho', rfl⟩ := ho
    refine ⟨o', ho', fun e he hb => ?_⟩
    have := h (bindE i e) (by simp only [bind1, List.mem_toArray, List.mem_map]; exact ⟨e, by simpa using he, rfl⟩) (bindE_iff.2 hb)
    rwa [bindE_on] at this
  · rintro ⟨o, ho, h⟩
    refine ⟨bind1 i o, by simp [ho], fun e he hb => ?_⟩
    simp only [bind1, List.mem_toArray, List.mem_map] at he
    obtain ⟨e', he', rfl⟩ := he
    rw [bindE_on]
    exact h e' (by simpa using he') (bindE_iff.1 hb)
theorem set_getD {l : Array Bool} {i j : Nat} (hi : i < l.size) (b : Bool) : (l.setIfInBounds i true).getD j b = if i = j then true else l.getD j b := by
  rw [Array.getD_eq_getD_getElem?, Array.getD_eq_getD_getElem?]
  by_cases h : i = j
  · subst h; rw [Array.getElem?_setIfInBounds_self_of_lt hi]; simp
  · rw [Array.getElem?_setIfInBounds_ne h]; simp [h]
/-- An operation under a raised list of edges runs as before. -/
theorem wpOp_bind1 {i j : Nat} {o : Oper} {a : Act} {w : World} {K : Act → World → Prop} (ho : ops[j]? = some o) (hg : o.guard = none) (h : wpOp P (ops.map (bind1 i)).toArray (Nrml Q) j K a w) : o.wp P a w K (Nrml Q) := by
  unfold wpOp at h
  simp only [List.getElem?_toArray, List.getElem?_map, ho, Option.map_some] at h
  have hw : Region.wanted (bind1 i o) (yielded (ops.map (bind1 i)).toArray a.tmps) = true := by simp [Region.wanted, bind1, hg]
  rw [if_pos hw] at h
  rcases h with h | h
  · cases o; exact h
  · exact absurd h.2 no_lets
theorem wpOp_of_wp {j : Nat} {o : Oper} {a : Act} {w : World} {K : Act → World → Prop} (ho : ops[j]? = some o) (hg : o.guard = none) (h : o.wp P a w K Q) : wpOp P ops.toArray Q j K a w := by
  unfold wpOp
  simp only [List.getElem?_toArray, ho]
  have hw : Region.wanted o (yielded ops.toArray a.tmps) = true := by simp [Region.wanted, hg]
  rw [if_pos hw]
  exact .inl h
theorem late_main {i d : Nat} {oi : Oper} {x : Operand} {k : Nat} (hi : ops[i]? = some oi) (hop : oi.op = .extract x k) (hdst : oi.dst = some d) (hsel : Region.noSelect ops.toArray = true)
    (hg : ∀ (j : Nat) (o : Oper), ops[j]? = some o → o.guard = none) (hself : ∀ e ∈ oi.after, e.on ≠ i) (h1 : ∀ (j : Nat) (o : Oper), ops[j]? = some o → j ≠ i → o.dst ≠ some d)
    (h2 : ∀ (j : Nat) (o : Oper), ops[j]? = some o → j ≠ i → d ∈ o.looksAt ops.toArray → ∃ e ∈ o.after, Region.binds .any e = true ∧ e.on = i)
    (h3 : ∀ (j : Nat) (o : Oper), ops[j]? = some o → j ≠ i → ∀ t, o.dst = some t → t ∈ oi.looksAt ops.toArray → ∃ e ∈ oi.after, Region.binds .any e = true ∧ e.on = j)
    (h4 : ∀ (j : Nat) (o : Oper), ops[j]? = some o → j ≠ i → (∃ e ∈ o.after, isText e = true ∧ e.on = i) → ∀ e ∈ oi.after, Region.binds .any e = true → ∃ e' ∈ o.after, Region.binds .any e' = true ∧ e'.on = e.on) :
    ∀ f, (∀ listed a w, listed.size = ops.length → wpAny P .any (ops.map (bind1 i)).toArray (Nrml Q) f listed a w → wpAny P .any ops.toArray (Nrml Q) f listed a w) ∧
      (∀ listed a w v, listed.size = ops.length → listed.getD i true = false → (∀ e ∈ oi.after, Region.binds .any e = true → listed.getD e.on false = true) → (∀ w, (execOp a.eval oi).run P w = .ok (.value v) w) →
        wpAny P .any (ops.map (bind1 i)).toArray (Nrml Q) f (listed.setIfInBounds i true) (a.put (some d) v) w → wpAny P .any ops.toArray (Nrml Q) (f + 1) listed a w) := by
  have hin : i < ops.length := (List.getElem?_eq_some_iff.1 hi).1
  have hTF : ∀ (listed : Array Bool) (j : Nat), listed.size = ops.length → j < ops.length → listed.getD j true = listed.getD j false := fun listed j hs hj => getD_lt (by omega) _ _
  have hsub : ∀ (listed : Array Bool) j, j ∈ Region.ready .any (ops.map (bind1 i)).toArray listed → j ∈ Region.ready .any ops.toArray listed := by
    intro listed j hj
    obtain ⟨a1, o, a2, a3⟩ := ready2_iff.1 hj
    exact mem_ready.2 ⟨a1, o, by simpa using a2, fun e he hb => a3 e he (Or.inl hb)⟩
  have hup : ∀ (listed : Array Bool) j, listed.size = ops.length → j ∈ Region.ready .any ops.toArray listed → j ≠ i → j ∈ Region.ready .any (ops.map (bind1 i)).toArray (listed.setIfInBounds i true) := by
    intro listed j hs hj hji
    obtain ⟨a1, o, a2, a3⟩ := mem_ready.1 hj
    simp only [List.getElem?_toArray] at a2
    refine ready2_iff.2 ⟨by rw [set_getD (by omega), if_neg (Ne.symm hji)]; exact a1, o, a2, fun e he hb => ?_⟩
    rw [set_getD (by omega)]
    by_cases hei : i = e.on
    · rw [if_pos hei]
    · rw [if_neg hei]
      exact a3 e he (hb.resolve_right fun h => hei h.2.symm)
  have hcase : ∀ (listed : Array Bool) j, listed.size = ops.length → j ∈ Region.ready .any ops.toArray listed → j ∈ Region.ready .any (ops.map (bind1 i)).toArray listed ∨
      (listed.getD i true = false ∧ i ∈ Region.ready .any (ops.map (bind1 i)).toArray listed ∧ j ≠ i ∧ (∀ e ∈ oi.after, Region.binds .any e = true → listed.getD e.on false = true)) := by
    intro listed j hs hj
    obtain ⟨a1, o, a2, a3⟩ := mem_ready.1 hj
    simp only [List.getElem?_toArray] at a2
    by_cases ht : (∃ e ∈ o.after, isText e = true ∧ e.on = i) ∧ listed.getD i false = false
    · right
      have hji : j ≠ i := by
        rintro rfl
        rw [hi] at a2
        obtain rfl : oi = o := by simpa using a2
        obtain ⟨e, he, _, h⟩ := ht.1
        exact hself e he h
      have hpr : ∀ e ∈ oi.after, Region.binds .any e = true → listed.getD e.on false = true := fun e he hb => by
        obtain ⟨e', he', hb', h'⟩ := h4 j o a2 hji ht.1 e he hb
        rw [← h']; exact a3 e' he' hb'
      have hiu : listed.getD i true = false := by rw [hTF _ _ hs hin]; exact ht.2
      exact ⟨hiu, ready2_iff.2 ⟨hiu, oi, hi, fun e he hb => hb.elim (hpr e he) fun h => absurd h.2 (hself e he)⟩, hji, hpr⟩
    · left
      refine ready2_iff.2 ⟨a1, o, a2, fun e he hb => hb.elim (a3 e he) fun h => ?_⟩
      rw [h.2]
      cases hl : listed.getD i false with
      | true => rfl
      | false => exact absurd ⟨⟨e, he, h⟩, hl⟩ ht
  intro f
  induction f using Nat.strongRecOn with
  | _ f ih =>
    have htrans : ∀ (f' : Nat), f' < f → ∀ (listed : Array Bool) (a : Act) (w : World) (v : Value) (j : Nat), listed.size = ops.length → j ∈ Region.ready .any ops.toArray listed → j ≠ i → listed.getD i true = false →
        (∀ e ∈ oi.after, Region.binds .any e = true → listed.getD e.on false = true) → (∀ w, (execOp a.eval oi).run P w = .ok (.value v) w) →
        wpOp P (ops.map (bind1 i)).toArray (Nrml Q) j (wpAny P .any (ops.map (bind1 i)).toArray (Nrml Q) f' ((listed.setIfInBounds i true).setIfInBounds j true)) (a.put (some d) v) w →
        wpOp P ops.toArray (Nrml Q) j (wpAny P .any ops.toArray (Nrml Q) (f' + 1) (listed.setIfInBounds j true)) a w := by
      intro f' hf' listed a w v j hs hj hji hiu hpr hpure hw
      obtain ⟨a1, o, a2, a3⟩ := mem_ready.1 hj
      simp only [List.getElem?_toArray] at a2
      have hjn : j < ops.length := (List.getElem?_eq_some_iff.1 a2).1
      have hiu' : listed.getD i false = false := by rw [← hTF _ _ hs hin]; exact hiu
      have hju : listed.getD j false = false := by rw [← hTF _ _ hs hjn]; exact a1
      have hwp := wpOp_bind1 a2 (hg j o a2) hw
      refine wpOp_of_wp a2 (hg j o a2) (wp_transfer (d := some d) (v := v) ?_ ?_ ?_ hwp)
      · exact execOp_put (ops := ops.toArray) o (fun cs b => Region.noSelect_spec hsel j o cs b (by simpa using a2)) a (some d) v (fun d' hd' hl => by
          obtain rfl : d = d' := by simpa using hd'
          obtain ⟨e, he, hb, h⟩ := h2 j o a2 hji hl
          have := a3 e he hb
          rw [h, hiu'] at this
          cases this)
      · intro t ht h
        obtain rfl : d = t := by simpa using ht
        exact h1 j o a2 hji h
      · intro dd u w' hk2
        refine (ih f' hf').2 (listed.setIfInBounds j true) _ w' v (by simpa using hs) ?_ ?_ ?_ ?_
        · rw [set_getD (by omega), if_neg hji]; exact hiu
        · intro e he hb
          rw [set_getD (by omega)]
          split
          · rfl
          · exact hpr e he hb
        · intro w''
          have e : execOp (({ a with defers := dd } : Act).put o.dst u).eval oi = execOp ({ a with defers := dd } : Act).eval oi :=
            execOp_put (ops := ops.toArray) oi (fun cs b => by rw [hop]; simp) _ o.dst u (fun t ht hl => by
              obtain ⟨e, he, hb, h⟩ := h3 j o a2 hji t ht hl
              have := hpr e he hb
              rw [h, hju] at this
              cases this)
          rw [e]
          exact hpure w''
        · rw [Array.setIfInBounds_comm _ _ hji]
          exact hk2
    have part1 : ∀ listed a w, listed.size = ops.length → wpAny P .any (ops.map (bind1 i)).toArray (Nrml Q) f listed a w → wpAny P .any ops.toArray (Nrml Q) f listed a w := by
      intro listed a w hs hw
      cases f with
      | zero =>
        obtain ⟨hr, hq⟩ := hw
        refine ⟨List.eq_nil_iff_forall_not_mem.2 fun j hj => ?_, hq⟩
        rcases hcase listed j hs hj with h | ⟨_, h, _⟩
        · rw [hr] at h; simp at h
        · rw [hr] at h; simp at h
      | succ f =>
        obtain ⟨hw1, hw2⟩ := hw
        refine ⟨fun hr => hw1 (List.eq_nil_iff_forall_not_mem.2 fun j hj => by have := hsub _ _ hj; rw [hr] at this; simp at this), fun j hj => ?_⟩
        obtain ⟨a1, o, a2, a3⟩ := mem_ready.1 hj
        simp only [List.getElem?_toArray] at a2
        rcases hcase listed j hs hj with h | ⟨hiu, hir, hji, hpr⟩
        · have hwp := wpOp_bind1 a2 (hg j o a2) (hw2 j h)
          exact wpOp_of_wp a2 (hg j o a2) (Oper.wp_mono (fun a w hh => (ih f (Nat.lt_succ_self f)).1 _ a w (by simpa using hs) hh) hwp)
        · have hwi := wpOp_bind1 hi (hg i oi hi) (hw2 i hir)
          obtain ⟨v, hpure, hnext⟩ := extract_pure hop hwi
          rw [hdst] at hnext
          have hj2 := hup listed j hs hj hji
          cases f with
          | zero => rw [hnext.1] at hj2; simp at hj2
          | succ f' => exact htrans f' (by omega) listed a w v j hs hj hji hiu hpr hpure (hnext.2 j hj2)
    refine ⟨part1, ?_⟩
    intro listed a w v hs hiu hpr hpure hw
    have hir : i ∈ Region.ready .any ops.toArray listed := mem_ready.2 ⟨hiu, oi, by simpa using hi, hpr⟩
    refine ⟨fun hr => (by rw [hr] at hir; simp at hir), fun j hj => ?_⟩
    by_cases hji : j = i
    · subst hji
      refine S_val hi (hg _ oi hi) (hpure w) ?_
      rw [hdst]
      exact part1 _ _ _ (by simpa using hs) hw
    · have hj2 := hup listed j hs hj hji
      cases f with
      | zero => rw [hw.1] at hj2; simp at hj2
      | succ f' => exact htrans f' (by omega) listed a w v j hs hj hji hiu hpr hpure (hw.2 j hj2)
theorem onB_iff {o : Oper} {k : Nat} : onB o k = true ↔ ∃ e ∈ o.after, Region.binds .any e = true ∧ e.on = k := by
  simp only [onB, List.any_eq_true, Bool.and_eq_true, beq_iff_eq]
  exact ⟨fun ⟨e, h, h'⟩ => ⟨e, by simpa using h, h'⟩, fun ⟨e, h, h'⟩ => ⟨e, by simpa using h, h'⟩⟩
theorem S_late {a : Act} {w : World} (i : Nat) (h : lateB ops i = true)
    (hw : wpAny P .any (ops.map (bind1 i)).toArray (Nrml Q) ((ops.map (bind1 i)).length - 0) (upTo 0 (ops.map (bind1 i)).length) a w) :
    wpAny P .any ops.toArray (Nrml Q) (ops.length - 0) (upTo 0 ops.length) a w := by
  unfold lateB at h
  cases hi : ops[i]? with
  | none => simp [hi] at h
  | some oi =>
    simp only [hi, Bool.and_eq_true] at h
    obtain ⟨⟨⟨⟨hop, hgi⟩, hsel⟩, hself⟩, hrest⟩ := h
    cases hd : oi.dst with
    | none => simp [hd] at hrest
    | some d =>
      simp only [hd, List.all_eq_true, Bool.and_eq_true] at hrest
      obtain ⟨x, k, hop'⟩ : ∃ x k, oi.op = .extract x k := by
        cases ho : oi.op <;> simp [ho] at hop
        exact ⟨_, _, rfl⟩
      have hall : ∀ (j : Nat) (o : Oper), ops[j]? = some o → _ := fun j o ho => hrest (o, j) (List.mem_zipIdx_iff_getElem?.2 (by simpa using ho))
      have hne : ∀ (j : Nat) (o : Oper), ops[j]? = some o → j ≠ i → _ := fun j o ho hji => (Bool.or_eq_true_iff.1 (hall j o ho).2).resolve_left (by simpa using hji)
      simp only [Bool.and_eq_true] at hne
      rw [List.length_map] at hw
      refine (late_main hi hop' hd hsel (fun j o ho => by simpa using (hall j o ho).1) (fun e he => by
          have := List.all_eq_true.1 hself e (by simpa using he); simpa using this)
        (fun j o ho hji => by have := (hne j o ho hji).1.1.1; simpa using this) ?_ ?_ ?_ _).1 _ a w (upTo_size _ _) hw
      · intro j o ho hji hl
        have := (hne j o ho hji).1.1.2
        rw [Bool.or_eq_true] at this
        exact onB_iff.1 (this.resolve_left (by simp; exact hl))
      · intro j o ho hji t ht hl
        have := (hne j o ho hji).1.2
        simp only [ht, Bool.or_eq_true] at this
        exact onB_iff.1 (this.resolve_left (by simp; exact hl))
      · intro j o ho hji hex e he hb
        have := (hne j o ho hji).2
        rw [Bool.or_eq_true] at this
        have h5 := this.resolve_left (by
          obtain ⟨e', he', h6, h7⟩ := hex
          simp only [Bool.not_eq_true', Bool.not_eq_false, List.any_eq_true, Bool.and_eq_true, beq_iff_eq]
          exact ⟨e', by simpa using he', h6, h7⟩)
        have h8 := List.all_eq_true.1 h5 e (by simpa using he)
        rw [Bool.or_eq_true] at h8
        exact onB_iff.1 (h8.resolve_left (by simp [hb]))
end
end Go.Own

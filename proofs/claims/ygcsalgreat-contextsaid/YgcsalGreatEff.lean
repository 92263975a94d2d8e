/-
  A stage of a region that draws its order: operations that change the world wait for one another, readers stand wherever they may, and one allocation may float among them. A list of the stage's operations
  is chosen; every order gives what the list's own order gives. The steps are shown at every world that keeps all blocks of the last one, so the floating block may stand anywhere.
-/
import Derived.Test.YgcsalGreatCalls2
set_option linter.unusedSimpArgs false
set_option linter.unusedVariables false
namespace Go.Own
def isEf (o : Oper) : Bool := match o.op with
  | .call c => (match c.callee with
    | .value _ => true
    | .builtin .append => true
    | .builtin .copy => true
    | _ => false)
  | .alloc _ => true
  | .box _ _ => true
  | .buildSlice _ _ _ => true
  | .makeSlice _ _ _ => true
  | .store _ _ _ => true
  | _ => false

def FirstE (P : Program) (w0 : World) (X : List Nat) (L : List (Nat × Obj)) (C : World → World → Prop) (ops : Array Oper) (o : Oper) (K : Act → World → Prop) (a : Act) (w : World) : Prop :=
    ((Region.wanted o (yielded ops a.tmps) = false ∧ K (a.put o.dst undef) w) ∨
     (Region.wanted o (yielded ops a.tmps) = true ∧ isEf o = true ∧ ∃ f args, (∀ w, (execOp a.eval o).run P w = .ok (.enter f args) w) ∧ Calls P f args w (fun e w' => ∃ v, e = .returned v ∧ C w w' ∧ Mem w0 X L w' ∧ K (a.put o.dst v) w')) ∨
     (Region.wanted o (yielded ops a.tmps) = true ∧ isEf o = true ∧ ∃ v w', (execOp a.eval o).run P w = .ok (.value v) w' ∧ C w w' ∧ Mem w0 X L w' ∧ K (a.put o.dst v) w') ∨
     (Region.wanted o (yielded ops a.tmps) = true ∧ isEf o = false ∧ ∃ v, (∀ w, Mem w0 X L w → (execOp a.eval o).run P w = .ok (.value v) w) ∧ K (a.put o.dst v) w))
def FirstI (P : Program) (w0 : World) (X : List Nat) (L : List (Nat × Obj)) (C : World → World → Prop) (ops : Array Oper) (i : Nat) (K : Act → World → Prop) (a : Act) (w : World) : Prop :=
  ∃ o, ops[i]? = some o ∧ FirstE P w0 X L C ops o K a w
def seqE (P : Program) (w0 : World) (X : List Nat) (L : List (Nat × Obj)) (C : World → World → Prop) (ops : Array Oper) (F : Act → World → Prop) : List Oper → Act → World → Prop
  | [], a, w => ∀ w', Kept [] w w' → Mem w0 X L w' → F a w'
  | o :: rest, a, w => ∀ w', Kept [] w w' → Mem w0 X L w' → FirstE P w0 X L C ops o (seqE P w0 X L C ops F rest) a w'
def seqI (P : Program) (w0 : World) (X : List Nat) (L : List (Nat × Obj)) (C : World → World → Prop) (ops : Array Oper) (F : Act → World → Prop) : List Nat → Act → World → Prop
  | [], a, w => ∀ w', Kept [] w w' → Mem w0 X L w' → F a w'
  | i :: rest, a, w => ∀ w', Kept [] w w' → Mem w0 X L w' → FirstI P w0 X L C ops i (seqI P w0 X L C ops F rest) a w'
def pairsE (ops : List Oper) (ms : List Nat) : List Nat → Bool
  | [] => true
  | p :: rest => (rest.all fun i => match ops[p]?, ops[i]? with
      | some op, some oi => (ms.getD i 0).testBit p || (op.apart ops.toArray oi && !isEf op)
      | _, _ => false) && pairsE ops ms rest
/-- fl: the operation that floats. -/
def effB (ops : List Oper) (m m2 : Nat) (π : List Nat) (fl : Option Nat) : Bool :=
  Region.noSelect ops.toArray && (ops.zipIdx.all fun p => p.1.after.all fun e => !Region.binds .any e || decide (e.on < p.2)) &&
  ((List.range' m (m2 - m)).all fun i => π.contains i || (fl == some i)) && (π.all fun i => decide (m ≤ i ∧ i < m2) && !(fl == some i)) && decide π.Nodup && pairsE ops (masks ops) π && decide (m ≤ m2) && decide (m2 ≤ ops.length) &&
  ((List.range' m2 (ops.length - m2)).all fun j => (List.range' m (m2 - m)).all fun i => ((masks ops).getD j 0).testBit i) &&
  (match fl with
   | none => true
   | some j => decide (m ≤ j ∧ j < m2) && (match ops[j]? with
      | some oj => (π.all fun i => match ops[i]? with
          | some oi => oj.apart ops.toArray oi
          | none => false)
      | none => false))
/-- What stands behind the stage, the floating allocation made. -/
def endE (w0 : World) (X : List Nat) (L : List (Nat × Obj)) (G : Act → World → Prop) : Option (Tmp × Obj) → Act → World → Prop
  | none, a, w => G a w
  | some (d, z), a, w => ∀ b w', Kept [] w w' → w0.heap.size ≤ b → Mem w0 X ((b, z) :: L) w' → G (a.put (some d) (.pointer (some ⟨b, 0, none⟩))) w'

section
variable {P : Program} {w0 : World} {X : List Nat} {L : List (Nat × Obj)} {C : World → World → Prop} {ops : Array Oper} {F : Act → World → Prop}

theorem FirstE.mono {o : Oper} {K K' : Act → World → Prop} {a : Act} {w : World} (h : FirstE P w0 X L C ops o K a w) (hk : ∀ v w', K (a.put o.dst v) w' → K' (a.put o.dst v) w') : FirstE P w0 X L C ops o K' a w := by
  rcases h with ⟨h1, h2⟩ | ⟨h1, h2, f, args, h3, h4⟩ | ⟨h1, h2, v, w', h3, h5, h6, h4⟩ | ⟨h1, h2, v, h3, h4⟩
  · exact .inl ⟨h1, hk _ _ h2⟩
  · exact .inr (.inl ⟨h1, h2, f, args, h3, h4.mono fun e w' ⟨v, he, hX, hM, hK⟩ => ⟨v, he, hX, hM, hk _ _ hK⟩⟩)
  · exact .inr (.inr (.inl ⟨h1, h2, v, w', h3, h5, h6, hk _ _ h4⟩))
  · exact .inr (.inr (.inr ⟨h1, h2, v, h3, hk _ _ h4⟩))
theorem seqI_weak {l : List Nat} {a : Act} {w w' : World} (h : seqI P w0 X L C ops F l a w) (k : Kept [] w w') : seqI P w0 X L C ops F l a w' := by
  cases l with
  | nil => exact fun w2 k2 M => h w2 (k.trans k2) M
  | cons i l => exact fun w2 k2 M => h w2 (k.trans k2) M
theorem seqE_weak {l : List Oper} {a : Act} {w w' : World} (h : seqE P w0 X L C ops F l a w) (k : Kept [] w w') : seqE P w0 X L C ops F l a w' := by
  cases l with
  | nil => exact fun w2 k2 M => h w2 (k.trans k2) M
  | cons i l => exact fun w2 k2 M => h w2 (k.trans k2) M
theorem seqI_of_seqE : ∀ (l : List Nat) (a : Act) (w : World), (∀ i ∈ l, ∃ o, ops[i]? = some o) → seqE P w0 X L C ops F (l.filterMap fun i => ops[i]?) a w → seqI P w0 X L C ops F l a w
  | [], a, w, _, h => h
  | i :: l, a, w, hl, h => by
    obtain ⟨o, ho⟩ := hl i (by simp)
    rw [List.filterMap_cons, ho] at h
    exact fun w' k M => ⟨o, ho, FirstE.mono (h w' k M) fun v w'' hq => seqI_of_seqE l _ w'' (fun j hj => hl j (by simp [hj])) hq⟩
theorem FirstI.mono {i : Nat} {o : Oper} (ho : ops[i]? = some o) {K K' : Act → World → Prop} {a : Act} {w : World} (h : FirstI P w0 X L C ops i K a w) (hk : ∀ v w', K (a.put o.dst v) w' → K' (a.put o.dst v) w') : FirstI P w0 X L C ops i K' a w := by
  obtain ⟨o', ho', h⟩ := h
  rw [ho] at ho'
  cases ho'
  exact ⟨o, ho, h.mono hk⟩
theorem firstE_put {i : Nat} {oi op : Oper} (hsel : ∀ cs b, oi.op ≠ .select cs b) (hi : ops[i]? = some oi) (hoff : Off ops op oi) {K : Act → World → Prop} {a : Act} {w : World} {vp : Value} (h : FirstI P w0 X L C ops i K (a.put op.dst vp) w) :
    FirstI P w0 X L C ops i (fun a' w' => K (a'.put op.dst vp) w') a w := by
  obtain ⟨o', ho', h⟩ := h
  rw [hi] at ho'
  cases ho'
  have hs := put_same_slots (a := a) (v := vp) hoff.h1
  have hw := wanted_of_slots (a := a.put op.dst vp) (a' := a) hs
  have hx : execOp (a.put op.dst vp).eval oi = execOp a.eval oi := execOp_congr oi hsel (eval_of_slots hs)
  have hc : ∀ v, (a.put op.dst vp).put oi.dst v = (a.put oi.dst v).put op.dst vp := fun v => Act.put_comm a vp v (fun t ht => hoff.h2 t ht)
  refine ⟨oi, hi, ?_⟩
  unfold FirstE at h ⊢
  rw [hw] at h
  simp only [hx, hc] at h
  exact h
theorem firstE_unput {i : Nat} {oi op : Oper} (hsel : ∀ cs b, oi.op ≠ .select cs b) (hi : ops[i]? = some oi) (hoff : Off ops op oi) {K : Act → World → Prop} {a : Act} {w : World} {vp : Value} (h : FirstI P w0 X L C ops i (fun a' w' => K (a'.put op.dst vp) w') a w) :
    FirstI P w0 X L C ops i K (a.put op.dst vp) w := by
  obtain ⟨o', ho', h⟩ := h
  rw [hi] at ho'
  cases ho'
  have hs := put_same_slots (a := a) (v := vp) hoff.h1
  have hw := wanted_of_slots (a := a.put op.dst vp) (a' := a) hs
  have hx : execOp (a.put op.dst vp).eval oi = execOp a.eval oi := execOp_congr oi hsel (eval_of_slots hs)
  have hc : ∀ v, (a.put op.dst vp).put oi.dst v = (a.put oi.dst v).put op.dst vp := fun v => Act.put_comm a vp v (fun t ht => hoff.h2 t ht)
  refine ⟨oi, hi, ?_⟩
  unfold FirstE at h ⊢
  rw [hw]
  simp only [hx, hc]
  exact h
theorem seqE_move (hsel : ∀ (i : Nat) (o : Oper), ops[i]? = some o → ∀ cs b, o.op ≠ .select cs b) {i : Nat} {oi : Oper} (hi : ops[i]? = some oi) (post : List Nat) : ∀ (pre : List Nat) (a : Act) (w : World), (∀ p ∈ pre, ∃ op, ops[p]? = some op ∧ isEf op = false ∧ Off ops op oi) → Mem w0 X L w →
    seqI P w0 X L C ops F (pre ++ i :: post) a w → FirstI P w0 X L C ops i (seqI P w0 X L C ops F (pre ++ post)) a w
  | [], a, w, _, M, h => h w (Kept.refl _ _) M
  | p :: pre, a, w, hp, M, h => by
    obtain ⟨op, hop, hsp, hoff⟩ := hp p (by simp)
    have hpre : ∀ q ∈ pre, ∃ op, ops[q]? = some op ∧ isEf op = false ∧ Off ops op oi := fun q hq => hp q (by simp [hq])
    have key : ∀ vp, seqI P w0 X L C ops F (pre ++ i :: post) (a.put op.dst vp) w → (∀ v w', seqI P w0 X L C ops F (pre ++ post) ((a.put oi.dst v).put op.dst vp) w' → seqI P w0 X L C ops F ((p :: pre) ++ post) (a.put oi.dst v) w') →
        FirstI P w0 X L C ops i (seqI P w0 X L C ops F ((p :: pre) ++ post)) a w := by
      intro vp hr hk
      exact FirstI.mono hi (firstE_put (hsel i oi hi) hi hoff (seqE_move hsel hi post pre _ _ hpre M hr)) hk
    have hs : ∀ v, ∀ t ∈ op.looksAt ops, (a.put oi.dst v).tmps[t]? = a.tmps[t]? := fun v => put_same_slots (a := a) (x := oi) (y := op) (v := v) hoff.h3
    have hw : ∀ v, Region.wanted op (yielded ops (a.put oi.dst v).tmps) = Region.wanted op (yielded ops a.tmps) := fun v => wanted_of_slots (hs v)
    have hx : ∀ v, execOp (a.put oi.dst v).eval op = execOp a.eval op := fun v => execOp_congr op (hsel p op hop) (eval_of_slots (hs v))
    obtain ⟨o', ho', h⟩ := h w (Kept.refl _ _) M
    rw [hop] at ho'
    cases ho'
    rcases h with ⟨h1, h2⟩ | ⟨h1, h2, _⟩ | ⟨h1, h2, _⟩ | ⟨h1, h2, vp, h3, h4⟩
    · exact key undef h2 (fun v w' hq w2 k2 M2 => ⟨op, hop, .inl ⟨by rw [hw]; exact h1, seqI_weak hq k2⟩⟩)
    · rw [hsp] at h2; cases h2
    · rw [hsp] at h2; cases h2
    · exact key vp h4 (fun v w' hq w2 k2 M2 => ⟨op, hop, .inr (.inr (.inr ⟨by rw [hw]; exact h1, h2, vp, fun w hM => by rw [hx]; exact h3 w hM, seqI_weak hq k2⟩))⟩)
end
section
variable {P : Program} {w0 : World} {X : List Nat} {L : List (Nat × Obj)} {C : World → World → Prop} {ops : List Oper} {Q : Exit → Act → World → Prop} {π : List Nat}
theorem pairsE_spec : ∀ {l : List Nat}, pairsE ops (masks ops) l = true → l.Pairwise (fun p i => ∃ op oi, ops[p]? = some op ∧ ops[i]? = some oi ∧ (((masks ops).getD i 0).testBit p = true ∨ (op.apart ops.toArray oi = true ∧ isEf op = false)))
  | [], _ => List.Pairwise.nil
  | p :: rest, h => by
    simp only [pairsE, Bool.and_eq_true, List.all_eq_true] at h
    refine List.Pairwise.cons (fun i hi => ?_) (pairsE_spec h.2)
    have := h.1 i hi
    cases hp : ops[p]? with
    | none => simp [hp] at this
    | some op =>
      cases hq : ops[i]? with
      | none => simp [hp, hq] at this
      | some oi =>
        simp only [hp, hq, Bool.or_eq_true, Bool.and_eq_true, Bool.not_eq_true'] at this
        exact ⟨op, oi, rfl, rfl, this⟩
/-- The float: what it is. -/
structure FlOk (P : Program) (ops : List Oper) (j : Nat) (d : Tmp) (z : Obj) : Prop where
  ex : ∃ (t ty : TypeId) (pos : String) (after : Array Edge) (zv : Value), ops[j]? = some { dst := some d, op := .alloc t, type := ty, pos := pos, after := after, guard := none } ∧ (P.info? t).bind (·.zero) = some zv ∧ z = .cells zv.cells t (0, 0)
theorem run_alloc {t ty : TypeId} {pos : String} {after : Array Edge} {d : Option Tmp} {zv : Value} {f : Operand → Value} {w : World} (hz : (P.info? t).bind (·.zero) = some zv) :
    (execOp f { dst := d, op := .alloc t, type := ty, pos := pos, after := after, guard := none }).run P w = .ok (.value (.pointer (some ⟨w.heap.size, 0, none⟩))) { w with heap := w.heap.push (.cells zv.cells t (0, 0)) } := by
  cases hq : P.info? t with
  | none => simp [hq] at hz
  | some inf =>
    have hz' : inf.zero = some zv := by simpa [hq] using hz
    simp [execOp, Instr.alloc, zeroValue, typeInfo, hq, hz', newVar, newRow, newObj, Sem.run, Value.cells]
/-- Where the float stands. -/
def Mode (w0 : World) (X : List Nat) (L : List (Nat × Obj)) (fl : Option (Nat × Tmp × Obj)) (D : Nat → Bool) (a0 a : Act) (w : World) : Prop :=
  match fl with
  | none => a = a0
  | some (j, d, z) => (D j = false ∧ a = a0) ∨ (D j = true ∧ ∃ b, w0.heap.size ≤ b ∧ Mem w0 X ((b, z) :: L) w ∧ a = a0.put (some d) (.pointer (some ⟨b, 0, none⟩)))
theorem eff_main {m m2 : Nat} {fl : Option (Nat × Tmp × Obj)} (hB : effB ops m m2 π (fl.map (·.1)) = true) (hfl : ∀ j d z, fl = some (j, d, z) → FlOk P ops j d z) (hC : fl ≠ none → (∀ x ∈ X, x < w0.heap.size) ∧ ∀ w w', C w w' → Kept X w w') (hCr : ∀ w, C w w) :
    ∀ (cnt : Nat) (D : Nat → Bool) (listed : Array Bool) (a0 a : Act) (w : World), listed.size = ops.length → (∀ i, D i = listed.getD i false) → (∀ i, m2 ≤ i → D i = false) → (∀ i, i < m → D i = true) → Closed ops D →
    ((List.range' m (m2 - m)).filter (fun i => !D i)).length = cnt → Mem w0 X L w → Mode w0 X L fl D a0 a w →
    seqI P w0 X L C ops.toArray (endE w0 X L (fun a w => wpAny P .any ops.toArray Q (ops.length - m2) (upTo m2 ops.length) a w) (fl.map (·.2))) (π.filter (fun i => !D i)) a0 w → wpAny P .any ops.toArray Q (cnt + (ops.length - m2)) listed a w := by
  simp only [effB, Bool.and_eq_true, decide_eq_true_eq, List.all_eq_true, List.mem_range] at hB
  obtain ⟨⟨⟨⟨⟨⟨⟨⟨⟨hsel, h4⟩, hin⟩, hlt⟩, hnd⟩, hpairs⟩, hmm⟩, hm2⟩, hbar0⟩, hflB⟩ := hB
  have hbar : ∀ i j, m ≤ i → i < m2 → m2 ≤ j → j < ops.length → ((masks ops).getD j 0).testBit i = true := fun i j h0 h1 h2 h3 => hbar0 j (by rw [List.mem_range'_1]; omega) i (by rw [List.mem_range'_1]; omega)
  have hback : ∀ j o, ops[j]? = some o → ∀ e ∈ o.after, Region.binds .any e = true → e.on < j := by
    intro j o hj e he hb
    have := h4 (o, j) (List.mem_zipIdx_iff_getElem?.2 (by simpa using hj))
    have := Array.all_eq_true_iff_forall_mem.1 this e he
    simpa [hb] using this
  have hpw := pairsE_spec hpairs
  have hselo : ∀ (i : Nat) (o : Oper), ops.toArray[i]? = some o → ∀ cs b, o.op ≠ .select cs b := fun i o hi cs b => Region.noSelect_spec hsel i o cs b hi
  intro cnt
  induction cnt with
  | zero =>
    intro D listed a0 a w hsz hDl hhigh hlow hcl hcnt hM hmode hs
    have hnil : (List.range' m (m2 - m)).filter (fun i => !D i) = [] := List.length_eq_zero_iff.1 hcnt
    have hall : ∀ i, i < m2 → D i = true := by
      intro i hi
      by_cases hmi : i < m
      · exact hlow i hmi
      · have := List.filter_eq_nil_iff.1 hnil i (by rw [List.mem_range'_1]; omega)
        simpa using this
    have hπ : π.filter (fun i => !D i) = [] := List.filter_eq_nil_iff.2 fun i hi => by
      have := hlt i hi
      simp [hall i this.1.2]
    rw [hπ] at hs
    have hlisted : listed = upTo m2 ops.length := by
      apply Array.ext_getElem?
      intro i
      by_cases hi : i < ops.length
      · have h1 := hDl i
        simp only [upTo, List.getElem?_toArray, List.getElem?_map, List.getElem?_range hi, Option.map_some]
        rw [Array.getElem?_eq_getElem (by omega)]
        rw [Array.getD_eq_getD_getElem?, Array.getElem?_eq_getElem (by omega)] at h1
        simp only [Option.getD_some] at h1
        rw [← h1]
        by_cases hi2 : i < m2
        · simp [hall i hi2, hi2]
        · simp [hhigh i (by omega), hi2]
      · simp only [upTo, List.getElem?_toArray, List.getElem?_map]
        rw [Array.getElem?_eq_none (by omega), List.getElem?_eq_none (by simp; omega)]
        rfl
    rw [Nat.zero_add, hlisted]
    have hs' := hs w (Kept.refl _ _) hM
    cases fl with
    | none => simp only [Mode] at hmode; subst hmode; exact hs'
    | some f =>
      obtain ⟨j, d, z⟩ := f
      rcases hmode with ⟨h1, _⟩ | ⟨_, b, hb, hMb, rfl⟩
      · rw [hall j (by simp at hflB; exact hflB.1.2)] at h1; cases h1
      · exact hs' b w (Kept.refl _ _) hb hMb
  | succ cnt ih =>
    intro D listed a0 a w hsz hDl hhigh hlow hcl hcnt hM hmode hs
    rw [show cnt + 1 + (ops.length - m2) = (cnt + (ops.length - m2)) + 1 from by omega]
    have hgetT : ∀ i, i < ops.length → listed.getD i true = D i := by
      intro i hi
      rw [hDl i]
      exact getD_any (by omega) true false
    refine ⟨fun h0 => ?_, fun i hi => ?_⟩
    · exfalso
      have hpos : 0 < ((List.range' m (m2 - m)).filter (fun i => !D i)).length := by omega
      obtain ⟨i, hi⟩ := List.exists_mem_of_length_pos hpos
      rw [List.mem_filter, List.mem_range'_1] at hi
      have hleast : ∀ k i, i ≤ k → i < ops.length → D i = false → ∃ j, j < ops.length ∧ D j = false ∧ ∀ j', j' < j → D j' = true := by
        intro k
        induction k with
        | zero => intro i h1 h2 h3; exact ⟨i, h2, h3, fun j' hj' => by omega⟩
        | succ k ihk =>
          intro i h1 h2 h3
          by_cases hb : ∃ j', j' < i ∧ D j' = false
          · obtain ⟨j', g2, g3⟩ := hb
            exact ihk j' (by omega) (by omega) g3
          · refine ⟨i, h2, h3, fun j' hj' => ?_⟩
            cases hDj : D j' with
            | true => rfl
            | false => exact absurd ⟨j', hj', hDj⟩ hb
      obtain ⟨j, g2, g3, g4⟩ := hleast i i (Nat.le_refl _) (by omega) (by simpa using hi.2)
      have hj : ops[j]? = some ops[j] := List.getElem?_eq_getElem (by omega)
      have : j ∈ Region.ready .any ops.toArray listed := mem_ready.2 ⟨by rw [hgetT j g2]; exact g3, ops[j], by rw [List.getElem?_toArray]; exact hj, fun e he hb => by rw [← hDl]; exact g4 _ (hback j _ hj e he hb)⟩
      rw [h0] at this
      cases this
    · obtain ⟨h1, o, h2, h3⟩ := mem_ready.1 hi
      have hoi : ops[i]? = some o := by simpa using h2
      have hilen : i < ops.length := (List.getElem?_eq_some_iff.1 hoi).1
      have hDi : D i = false := by rw [← hgetT i hilen]; exact h1
      have hdeps : ∀ e ∈ o.after, Region.binds .any e = true → D e.on = true := fun e he hb => by rw [hDl]; exact h3 e he hb
      have him : m ≤ i := by
        rcases Nat.lt_or_ge i m with h | h
        · rw [hlow i h] at hDi; cases hDi
        · exact h
      have hi2 : i < m2 := by
        rcases Nat.lt_or_ge i m2 with h | h
        · exact h
        · exfalso
          have hpos : 0 < ((List.range' m (m2 - m)).filter (fun i => !D i)).length := by omega
          obtain ⟨j, hj⟩ := List.exists_mem_of_length_pos hpos
          rw [List.mem_filter, List.mem_range'_1] at hj
          have := masks_spec hcl hoi hdeps (hbar j i (by omega) (by omega) h hilen)
          simp [this] at hj
      have hl' : (listed.setIfInBounds i true).size = ops.length := by simp [hsz]
      have hD' : ∀ k, also D i k = (listed.setIfInBounds i true).getD k false := by
        intro k
        by_cases hk : k = i
        · subst hk; simp [also, hsz, hilen]
        · rw [getD_set_ne false (Ne.symm hk), ← hDl k]; simp [also, hk]
      have hhigh' : ∀ k, m2 ≤ k → also D i k = false := fun k hk => by simp [also, hhigh k hk]; omega
      have hlow' : ∀ k, k < m → also D i k = true := fun k hk => by simp [also, hlow k hk]
      have hcl' : Closed ops (also D i) := by
        intro j oj hj hDj e he hb
        by_cases hji : j = i
        · subst hji
          rw [hoi] at hj; cases hj
          simp [also, hdeps e he hb]
        · have : D j = true := by simpa [also, hji] using hDj
          simp [also, hcl j oj hj this e he hb]
      have hfilt : ∀ l : List Nat, l.filter (fun k => !also D i k) = (l.filter (fun k => !D k)).filter (fun k => k != i) := by
        intro l
        rw [List.filter_filter]
        refine List.filter_congr fun k _ => ?_
        simp only [also]
        cases hki : (k == i) <;> cases D k <;> simp_all
      have hcnt' : ((List.range' m (m2 - m)).filter (fun k => !also D i k)).length = cnt := by
        rw [hfilt]
        have hmem : i ∈ (List.range' m (m2 - m)).filter (fun k => !D k) := List.mem_filter.2 ⟨by rw [List.mem_range'_1]; omega, by simp [hDi]⟩
        have hndr : ((List.range' m (m2 - m)).filter (fun k => !D k)).Nodup := (List.nodup_range' (step := 1) (by omega)).sublist List.filter_sublist
        obtain ⟨pre, post, hsplit⟩ := List.append_of_mem hmem
        rw [hsplit] at hndr hcnt ⊢
        rw [List.nodup_append] at hndr
        obtain ⟨_, n2, n3⟩ := hndr
        have n4 : i ∉ pre := fun h => n3 i h i (by simp) rfl
        rw [List.filter_append, List.filter_cons, filter_ne n4, filter_ne (List.nodup_cons.1 n2).1]
        simp at hcnt ⊢
        omega
      by_cases hfi : fl.map (·.1) = some i
      · -- the float
        cases fl with
        | none => simp at hfi
        | some f =>
          obtain ⟨j, d, z⟩ := f
          simp only [Option.map_some, Option.some.injEq] at hfi
          subst hfi
          obtain ⟨t, ty, pos, after, zv, hoj, hz, rfl⟩ := (hfl j d z rfl).ex
          rw [hoi] at hoj
          cases hoj
          rcases hmode with ⟨_, rfl⟩ | ⟨g1, _⟩
          · unfold wpOp
            simp only [h2]
            rw [if_pos (by simp [Region.wanted])]
            refine .inl ?_
            unfold Oper.wp
            rw [run_alloc hz]
            simp only [Oper.upon]
            have ⟨g1, g2⟩ := hM.alloc (.cells zv.cells t (0, 0))
            have hk : Kept [] w { w with heap := w.heap.push (.cells zv.cells t (0, 0)) } := ((Mem.start w []).alloc (.cells zv.cells t (0, 0))).2.kept
            refine ih (also D j) _ a _ _ hl' hD' hhigh' hlow' hcl' hcnt' (hM.call hk) (.inr ⟨by simp [also], w.heap.size, g1, g2, rfl⟩) ?_
            have : π.filter (fun k => !also D j k) = π.filter (fun k => !D k) := by
              rw [hfilt]
              refine filter_ne fun h => ?_
              have := hlt j (List.mem_filter.1 h).1
              simp at this
            rw [this]
            exact seqI_weak hs hk
          · rw [hDi] at g1; cases g1
      · have hiπ : i ∈ π := by
          have := hin i (by rw [List.mem_range'_1]; omega)
          simpa [hfi] using this
        have hirem : i ∈ π.filter (fun i => !D i) := List.mem_filter.2 ⟨hiπ, by simp [hDi]⟩
        obtain ⟨pre, post, hsplit⟩ := List.append_of_mem hirem
        have hndr : (π.filter (fun i => !D i)).Nodup := hnd.sublist List.filter_sublist
        have hpwr := hpw.sublist (List.filter_sublist (p := fun i => !D i))
        rw [hsplit] at hs hndr hpwr
        have hpre : ∀ p ∈ pre, ∃ op, ops.toArray[p]? = some op ∧ isEf op = false ∧ Off ops.toArray op o := by
          intro p hp
          have hpD : D p = false := by
            have : p ∈ π.filter (fun i => !D i) := by rw [hsplit]; simp [hp]
            simpa using (List.mem_filter.1 this).2
          obtain ⟨op, oi, g1, g2, g3⟩ := (List.pairwise_append.1 hpwr).2.2 p hp i (by simp)
          rw [hoi] at g2
          cases g2
          rcases g3 with g3 | ⟨g3, g4⟩
          · have := masks_spec hcl hoi hdeps g3
            rw [hpD] at this
            cases this
          · obtain ⟨e1, e2, e3⟩ := Oper.apart_spec g3
            exact ⟨op, by simpa using g1, g4, ⟨e1, e2, e3⟩⟩
        have hni : i ∉ pre ∧ i ∉ post := by
          rw [List.nodup_append] at hndr
          obtain ⟨_, n2, n3⟩ := hndr
          exact ⟨fun h => n3 i h i (by simp) rfl, (List.nodup_cons.1 n2).1⟩
        have hrem : π.filter (fun k => !also D i k) = pre ++ post := by
          rw [hfilt, hsplit, List.filter_append, List.filter_cons, filter_ne hni.1, filter_ne hni.2]
          simp
        have hF0 := seqE_move hselo h2 post pre a0 w hpre hM hs
        -- the same from the act that stands
        have hF : FirstI P w0 X L C ops.toArray i (fun a' w' => C w w' → Mem w0 X L w' → wpAny P .any ops.toArray Q (cnt + (ops.length - m2)) (listed.setIfInBounds i true) a' w') a w := by
          cases fl with
          | none =>
            simp only [Mode] at hmode
            subst hmode
            refine FirstI.mono h2 hF0 fun v w' hq hk hM' => ?_
            exact ih (also D i) _ _ _ w' hl' hD' hhigh' hlow' hcl' hcnt' hM' rfl (by rw [hrem]; exact hq)
          | some f =>
            obtain ⟨j, d, z⟩ := f
            have hij : i ≠ j := fun h => hfi (by simp [h])
            rcases hmode with ⟨g1, rfl⟩ | ⟨g1, b, hb, hMb, rfl⟩
            · refine FirstI.mono h2 hF0 fun v w' hq hk hM' => ?_
              exact ih (also D i) _ _ _ w' hl' hD' hhigh' hlow' hcl' hcnt' hM' (.inl ⟨by simp [also, g1, Ne.symm hij], rfl⟩) (by rw [hrem]; exact hq)
            · obtain ⟨t, ty, pos, after, zv, hoj, hz, rfl⟩ := (hfl j d z rfl).ex
              have hap := hflB
              simp only [Option.map_some, Bool.and_eq_true, hoj] at hap
              have hap := List.all_eq_true.1 hap.2 i hiπ
              simp only [hoi] at hap
              obtain ⟨e1, e2, e3⟩ := Oper.apart_spec hap
              refine firstE_unput (op := { dst := some d, op := .alloc t, type := ty, pos := pos, after := after, guard := none }) (hselo i o h2) h2 ⟨e1, e2, e3⟩ ?_
              refine FirstI.mono h2 hF0 fun v w' hq hk hM' => ?_
              have hrow := ((hC (by simp)).2 _ _ hk).row hMb.r0 (fun h => by have := (hC (by simp)).1 b h; omega)
              have hMb' : Mem w0 X ((b, .cells zv.cells t (0, 0)) :: L) w' := hM'.add hrow (by
                intro p hp
                have := hMb.apart
                simp only [List.map_cons, List.pairwise_cons] at this
                exact this.1 p.1 (List.mem_map.2 ⟨p, hp, rfl⟩))
              exact ih (also D i) _ _ _ w' hl' hD' hhigh' hlow' hcl' hcnt' hM' (.inr ⟨by simp [also, g1], b, hb, hMb', rfl⟩) (by rw [hrem]; exact hq)
        obtain ⟨o', ho', hF⟩ := hF
        rw [h2] at ho'
        cases ho'
        unfold wpOp
        simp only [h2]
        rcases hF with ⟨f1, f2⟩ | ⟨f1, _, f, args, f3, f4⟩ | ⟨f1, _, v, w', f3, f5, f6, f4⟩ | ⟨f1, _, v, f3, f4⟩
        · rw [if_neg (by rw [f1]; simp)]
          exact f2 (hCr _) hM
        · rw [if_pos f1]
          refine .inl ?_
          unfold Oper.wp
          rw [f3]
          simp only [Oper.upon]
          refine f4.mono ?_
          rintro e w' ⟨v, rfl, hX', hM', hq⟩
          exact hq hX' hM'
        · rw [if_pos f1]
          refine .inl ?_
          unfold Oper.wp
          rw [f3]
          simp only [Oper.upon]
          exact f4 f5 f6
        · rw [if_pos f1]
          refine .inl ?_
          unfold Oper.wp
          rw [f3 w hM]
          simp only [Oper.upon]
          exact f4 (hCr _) hM

structure EV (P : Program) (w0 : World) (X : List Nat) (L : List (Nat × Obj)) (C : World → World → Prop) (ops : Array Oper) (F : Act → World → Prop) (l : List Oper) (a : Act) (w : World) : Prop where
  out : seqE P w0 X L C ops F l a w
theorem E_all {a : Act} {w : World} {m m2 : Nat} {π : List Nat} {fl : Option (Nat × Tmp × Obj)} (hB : effB ops m m2 π (fl.map (·.1)) = true) (hfl : ∀ j d z, fl = some (j, d, z) → FlOk P ops j d z) (hC : fl ≠ none → (∀ x ∈ X, x < w0.heap.size) ∧ ∀ w w', C w w' → Kept X w w') (hCr : ∀ w, C w w) (M : Mem w0 X L w)
    (h : EV P w0 X L C ops.toArray (endE w0 X L (fun a w => wpAny P .any ops.toArray Q (ops.length - m2) (upTo m2 ops.length) a w) (fl.map (·.2))) (π.filterMap fun i => ops[i]?) a w) :
    wpAny P .any ops.toArray Q (ops.length - m) (upTo m ops.length) a w := by
  have hB0 := hB
  simp only [effB, Bool.and_eq_true, decide_eq_true_eq, List.all_eq_true] at hB0
  obtain ⟨⟨⟨⟨⟨⟨⟨⟨⟨_, h4⟩, _⟩, hlt0⟩, _⟩, _⟩, hmm⟩, hm2⟩, _⟩, hflB⟩ := hB0
  have hlt : ∀ i ∈ π, ∃ o, ops.toArray[i]? = some o := fun i hi => by
    have hi' : i < ops.length := by have := (hlt0 i hi).1; omega
    exact ⟨ops[i], by rw [List.getElem?_toArray]; exact List.getElem?_eq_getElem hi'⟩
  have hback : ∀ j o, ops[j]? = some o → ∀ e ∈ o.after, Region.binds .any e = true → e.on < j := by
    intro j o hj e he hb
    have := h4 (o, j) (List.mem_zipIdx_iff_getElem?.2 (by simpa using hj))
    have := Array.all_eq_true_iff_forall_mem.1 this e he
    simpa [hb] using this
  have hf : π.filter (fun i => !decide (i < m)) = π := List.filter_eq_self.2 fun i hi => by
    have := (hlt0 i hi).1
    simp; omega
  have hr : (List.range' m (m2 - m)).filter (fun i => !decide (i < m)) = List.range' m (m2 - m) := List.filter_eq_self.2 fun i hi => by
    rw [List.mem_range'_1] at hi
    simp; omega
  have := eff_main (w0 := w0) (X := X) (L := L) (Q := Q) hB hfl hC hCr (m2 - m) (fun i => decide (i < m)) (upTo m ops.length) a a w (upTo_size _ _) (fun i => (upTo_getD_false (by omega)).symm) (fun i h => by simp; omega) (fun i h => by simp; omega) (upTo_closed hback m) (by rw [hr]; simp) M
    (by
      cases fl with
      | none => exact rfl
      | some f =>
        obtain ⟨j, d, z⟩ := f
        simp at hflB
        exact .inl ⟨by simp; omega, rfl⟩)
    (by rw [hf]; exact seqI_of_seqE π a w hlt (by simpa using h.out))
  rw [show m2 - m + (ops.length - m2) = ops.length - m by omega] at this
  exact this
/-- No operation floats. -/
theorem E_stage {a : Act} {w : World} (m m2 : Nat) (π : List Nat) (hB : effB ops m m2 π none = true) (M : Mem w0 X L w)
    (h : EV P w0 X L (fun _ _ => True) ops.toArray (fun a w => wpAny P .any ops.toArray Q (ops.length - m2) (upTo m2 ops.length) a w) (π.filterMap fun i => ops[i]?) a w) :
    wpAny P .any ops.toArray Q (ops.length - m) (upTo m ops.length) a w :=
  E_all (fl := none) hB (by simp) (by simp) (fun _ => trivial) M h
/-- Operation j, an allocation, floats. -/
theorem E_float {a : Act} {w : World} (m m2 : Nat) (π : List Nat) (j : Nat) (d : Tmp) (z : Obj) (hB : effB ops m m2 π (some j) = true) (hj : FlOk P ops j d z) (hX : ∀ x ∈ X, x < w0.heap.size) (M : Mem w0 X L w)
    (h : EV P w0 X L (Kept X) ops.toArray (fun a w => ∀ b w', Kept [] w w' → w0.heap.size ≤ b → Mem w0 X ((b, z) :: L) w' → wpAny P .any ops.toArray Q (ops.length - m2) (upTo m2 ops.length) (a.put (some d) (.pointer (some ⟨b, 0, none⟩))) w') (π.filterMap fun i => ops[i]?) a w) :
    wpAny P .any ops.toArray Q (ops.length - m) (upTo m ops.length) a w :=
  E_all (fl := some (j, d, z)) hB (by rintro _ _ _ ⟨⟩; exact hj) (fun _ => ⟨hX, fun _ _ h => h⟩) (Kept.refl _) M h
end
section
variable {P : Program} {w0 : World} {X : List Nat} {L : List (Nat × Obj)} {C : World → World → Prop} {A : Array Oper} {F : Act → World → Prop} {a : Act} {w : World} {rest : List Oper}
theorem E_nil (h : ∀ w', Kept [] w w' → Mem w0 X L w' → F a w') : EV P w0 X L C A F [] a w := ⟨h⟩
theorem E_run {o : Oper} {v : Value} (hw : Region.wanted o (yielded A a.tmps) = true) (hs : isEf o = false) (hr : ∀ w, Mem w0 X L w → (execOp a.eval o).run P w = .ok (.value v) w)
    (k : EV P w0 X L C A F rest (a.put o.dst v) w) : EV P w0 X L C A F (o :: rest) a w := ⟨fun w' K M => .inr (.inr (.inr ⟨hw, hs, v, hr, seqE_weak k.out K⟩))⟩
theorem E_no {o : Oper} (hw : Region.wanted o (yielded A a.tmps) = false) (k : EV P w0 X L C A F rest (a.put o.dst undef) w) : EV P w0 X L C A F (o :: rest) a w := ⟨fun w' K M => .inl ⟨hw, seqE_weak k.out K⟩⟩
/-- An operation that changes the world. -/
theorem E_eff {o : Oper} (hw : Region.wanted o (yielded A a.tmps) = true) (hs : isEf o = true)
    (k : ∀ w1, Kept [] w w1 → Mem w0 X L w1 → ∃ v w', (execOp a.eval o).run P w1 = .ok (.value v) w' ∧ C w1 w' ∧ Mem w0 X L w' ∧ EV P w0 X L C A F rest (a.put o.dst v) w') : EV P w0 X L C A F (o :: rest) a w :=
  ⟨fun w1 K M => by
    obtain ⟨v, w', h1, h2, h3, h4⟩ := k w1 K M
    exact .inr (.inr (.inl ⟨hw, hs, v, w', h1, h2, h3, h4.out⟩))⟩
theorem E_call {dst : Option Tmp} {f : FuncId} {xs : List Operand} {ats : Array TypeId} {ty : TypeId} {pos : String} {after : Array Edge} {g : Option (Nat × Bool)} {fn : Func} {args : List Value}
    (hw : Region.wanted { dst := dst, op := .call { callee := .value (.func f), args := xs.toArray, argTypes := ats }, type := ty, pos := pos, after := after, guard := g } (yielded A a.tmps) = true)
    (hfn : P.funcs[f]? = some fn) (hn : (fn.name == "runtime.NumGoroutine") = false) (hb : fn.body.isNone = false) (hargs : xs.map a.eval = args)
    (hc : ∀ w1, Kept [] w w1 → Mem w0 X L w1 → Calls P f args.toArray w1 fun e w' => ∃ v, e = .returned v ∧ C w1 w' ∧ Mem w0 X L w' ∧ EV P w0 X L C A F rest (a.put dst v) w') :
    EV P w0 X L C A F ({ dst := dst, op := .call { callee := .value (.func f), args := xs.toArray, argTypes := ats }, type := ty, pos := pos, after := after, guard := g } :: rest) a w := by
  refine ⟨fun w1 K M => .inr (.inl ⟨hw, rfl, f, args.toArray, fun w => ?_, (hc w1 K M).mono fun e w' ⟨v, h1, hx, h2, h3⟩ => ⟨v, h1, hx, h2, h3.out⟩⟩)⟩
  rw [execOp_call_go]
  have hn' : ¬ fn.name = "runtime.NumGoroutine" := by simpa using hn
  have hb' : ¬ fn.body = none := by intro h; simp [h] at hb
  simp [callFunc, Go.program, Sem.run, hfn, hn', hb', hargs]
end
end Go.Own

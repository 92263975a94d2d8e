/-
  A stage of a region that draws its order, in which one literal floats (see the text of the floating allocation).
-/
import Derived.Test.YgcsalGreatEff
set_option linter.unusedSimpArgs false
set_option linter.unusedVariables false
namespace Go.Own
def endE2 (fv : Nat → Value) (w0 : World) (X : List Nat) (L : List (Nat × Obj)) (G : Act → World → Prop) : Option (Tmp × Obj) → Act → World → Prop
  | none, a, w => G a w
  | some (d, z), a, w => ∀ b w', Kept [] w w' → w0.heap.size ≤ b → Mem w0 X ((b, z) :: L) w' → G (a.put (some d) (fv b)) w'
structure FlOk2 (P : Program) (ops : List Oper) (j : Nat) (d : Tmp) (z : Obj) (fv : Nat → Value) : Prop where
  ex : ∃ o : Oper, ops[j]? = some o ∧ o.dst = some d ∧ o.guard = none ∧ ∀ (a : Act) (w : World), (execOp a.eval o).run P w = .ok (.value (fv w.heap.size)) { w with heap := w.heap.push z }
section
variable {P : Program} {w0 : World} {X : List Nat} {L : List (Nat × Obj)} {C : World → World → Prop} {ops : List Oper} {Q : Exit → Act → World → Prop} {π : List Nat}
/-- Where the float stands. -/
def Mode2 (fv : Nat → Value) (w0 : World) (X : List Nat) (L : List (Nat × Obj)) (fl : Option (Nat × Tmp × Obj)) (D : Nat → Bool) (a0 a : Act) (w : World) : Prop :=
  match fl with
  | none => a = a0
  | some (j, d, z) => (D j = false ∧ a = a0) ∨ (D j = true ∧ ∃ b, w0.heap.size ≤ b ∧ Mem w0 X ((b, z) :: L) w ∧ a = a0.put (some d) (fv b))
theorem eff_main2 {m m2 : Nat} {fv : Nat → Value} {fl : Option (Nat × Tmp × Obj)} (hB : effB ops m m2 π (fl.map (·.1)) = true) (hfl : ∀ j d z, fl = some (j, d, z) → FlOk2 P ops j d z fv) (hC : fl ≠ none → (∀ x ∈ X, x < w0.heap.size) ∧ ∀ w w', C w w' → Kept X w w') (hCr : ∀ w, C w w) :
    ∀ (cnt : Nat) (D : Nat → Bool) (listed : Array Bool) (a0 a : Act) (w : World), listed.size = ops.length → (∀ i, D i = listed.getD i false) → (∀ i, m2 ≤ i → D i = false) → (∀ i, i < m → D i = true) → Closed ops D →
    ((List.range' m (m2 - m)).filter (fun i => !D i)).length = cnt → Mem w0 X L w → Mode2 fv w0 X L fl D a0 a w →
    seqI P w0 X L C ops.toArray (endE2 fv w0 X L (fun a w => wpAny P .any ops.toArray Q (ops.length - m2) (upTo m2 ops.length) a w) (fl.map (·.2))) (π.filter (fun i => !D i)) a0 w → wpAny P .any ops.toArray Q (cnt + (ops.length - m2)) listed a w := by
  simp only [effB, Bool.and_eq_true, decide_eq_true_eq, List.all_eq_true, List.mem_range] at hB
  obtain ⟨⟨⟨⟨⟨⟨⟨⟨⟨hsel, h4⟩, hin⟩, hlt⟩, hnd⟩, hpairs⟩, hmm⟩, hm2⟩, hbar0⟩, hflB⟩ := hB
  have hbar : ∀ i j, m ≤ i → i < m2 → m2 ≤ j → j < ops.length → ((masks ops).getD j 0).testBit i = true := fun i j h0 h1 h2 h3 => hbar0 j (by rw [List.mem_range'_1]; omega) i (by rw [List.mem_range'_1]; omega)
  have hback : ∀ j o, ops[j]? = some o → ∀ e ∈ o.after, Region.binds .any e = true → e.on < j := by
    intro j o hj e he hb
    have := h4 (o, j) (List.mem_zipIdx_iff_getElem?.2 (by simpa using hj))
    have := Array.all_eq_true_iff_forall_mem.1 this e he
    simpa [hb] using this
  have hpw := pairsE_spec hpairs
  have hselo : ∀ (i : Nat) (o : Oper), ops.toArray[i]? = some o → ∀ cs b, o.op ≠ .select cs b := fun i o hi cs b => Region.noSelect_spec hsel i o cs b hi
  intro cnt
  induction cnt with
  | zero =>
    intro D listed a0 a w hsz hDl hhigh hlow hcl hcnt hM hmode hs
    have hnil : (List.range' m (m2 - m)).filter (fun i => !D i) = [] := List.length_eq_zero_iff.1 hcnt
    have hall : ∀ i, i < m2 → D i = true := by
      intro i hi
      by_cases hmi : i < m
      · exact hlow i hmi
      · have := List.filter_eq_nil_iff.1 hnil i (by rw [List.mem_range'_1]; omega)
        simpa using this
    have hπ : π.filter (fun i => !D i) = [] := List.filter_eq_nil_iff.2 fun i hi => by
      have := hlt i hi
      simp [hall i this.1.2]
    rw [hπ] at hs
    have hlisted : listed = upTo m2 ops.length := by
      apply Array.ext_getElem?
      intro i
      by_cases hi : i < ops.length
      · have h1 := hDl i
        simp only [upTo, List.getElem?_toArray, List.getElem?_map, List.getElem?_range hi, Option.map_some]
        rw [Array.getElem?_eq_getElem (by omega)]
        rw [Array.getD_eq_getD_getElem?, Array.getElem?_eq_getElem (by omega)] at h1
        simp only [Option.getD_some] at h1
        rw [← h1]
        by_cases hi2 : i < m2
        · simp [hall i hi2, hi2]
        · simp [hhigh i (by omega), hi2]
      · simp only [upTo, List.getElem?_toArray, List.getElem?_map]
        rw [Array.getElem?_eq_none (by omega), List.getElem?_eq_none (by simp; omega)]
        rfl
    rw [Nat.zero_add, hlisted]
    have hs' := hs w (Kept.refl _ _) hM
    cases fl with
    | none => simp only [Mode2] at hmode; subst hmode; exact hs'
    | some f =>
      obtain ⟨j, d, z⟩ := f
      rcases hmode with ⟨h1, _⟩ | ⟨_, b, hb, hMb, rfl⟩
      · rw [hall j (by simp at hflB; exact hflB.1.2)] at h1; cases h1
      · exact hs' b w (Kept.refl _ _) hb hMb
  | succ cnt ih =>
    intro D listed a0 a w hsz hDl hhigh hlow hcl hcnt hM hmode hs
    rw [show cnt + 1 + (ops.length - m2) = (cnt + (ops.length - m2)) + 1 from by omega]
    have hgetT : ∀ i, i < ops.length → listed.getD i true = D i := by
      intro i hi
      rw [hDl i]
      exact getD_any (by omega) true false
    refine ⟨fun h0 => ?_, fun i hi => ?_⟩
    · exfalso
      have hpos : 0 < ((List.range' m (m2 - m)).filter (fun i => !D i)).length := by omega
      obtain ⟨i, hi⟩ := List.exists_mem_of_length_pos hpos
      rw [List.mem_filter, List.mem_range'_1] at hi
      have hleast : ∀ k i, i ≤ k → i < ops.length → D i = false → ∃ j, j < ops.length ∧ D j = false ∧ ∀ j', j' < j → D j' = true := by
        intro k
        induction k with
        | zero => intro i h1 h2 h3; exact ⟨i, h2, h3, fun j' hj' => by omega⟩
        | succ k ihk =>
          intro i h1 h2 h3
          by_cases hb : ∃ j', j' < i ∧ D j' = false
          · obtain ⟨j', g2, g3⟩ := hb
            exact ihk j' (by omega) (by omega) g3
          · refine ⟨i, h2, h3, fun j' hj' => ?_⟩
            cases hDj : D j' with
            | true => rfl
            | false => exact absurd ⟨j', hj', hDj⟩ hb
      obtain ⟨j, g2, g3, g4⟩ := hleast i i (Nat.le_refl _) (by omega) (by simpa using hi.2)
      have hj : ops[j]? = some ops[j] := List.getElem?_eq_getElem (by omega)
      have : j ∈ Region.ready .any ops.toArray listed := mem_ready.2 ⟨by rw [hgetT j g2]; exact g3, ops[j], by rw [List.getElem?_toArray]; exact hj, fun e he hb => by rw [← hDl]; exact g4 _ (hback j _ hj e he hb)⟩
      rw [h0] at this
      cases this
    · obtain ⟨h1, o, h2, h3⟩ := mem_ready.1 hi
      have hoi : ops[i]? = some o := by simpa using h2
      have hilen : i < ops.length := (List.getElem?_eq_some_iff.1 hoi).1
      have hDi : D i = false := by rw [← hgetT i hilen]; exact h1
      have hdeps : ∀ e ∈ o.after, Region.binds .any e = true → D e.on = true := fun e he hb => by rw [hDl]; exact h3 e he hb
      have him : m ≤ i := by
        rcases Nat.lt_or_ge i m with h | h
        · rw [hlow i h] at hDi; cases hDi
        · exact h
      have hi2 : i < m2 := by
        rcases Nat.lt_or_ge i m2 with h | h
        · exact h
        · exfalso
          have hpos : 0 < ((List.range' m (m2 - m)).filter (fun i => !D i)).length := by omega
          obtain ⟨j, hj⟩ := List.exists_mem_of_length_pos hpos
          rw [List.mem_filter, List.mem_range'_1] at hj
          have := masks_spec hcl hoi hdeps (hbar j i (by omega) (by omega) h hilen)
          simp [this] at hj
      have hl' : (listed.setIfInBounds i true).size = ops.length := by simp [hsz]
      have hD' : ∀ k, also D i k = (listed.setIfInBounds i true).getD k false := by
        intro k
        by_cases hk : k = i
        · subst hk; simp [also, hsz, hilen]
        · rw [getD_set_ne false (Ne.symm hk), ← hDl k]; simp [also, hk]
      have hhigh' : ∀ k, m2 ≤ k → also D i k = false := fun k hk => by simp [also, hhigh k hk]; omega
      have hlow' : ∀ k, k < m → also D i k = true := fun k hk => by simp [also, hlow k hk]
      have hcl' : Closed ops (also D i) := by
        intro j oj hj hDj e he hb
        by_cases hji : j = i
        · subst hji
          rw [hoi] at hj; cases hj
          simp [also, hdeps e he hb]
        · have : D j = true := by simpa [also, hji] using hDj
          simp [also, hcl j oj hj this e he hb]
      have hfilt : ∀ l : List Nat, l.filter (fun k => !also D i k) = (l.filter (fun k => !D k)).filter (fun k => k != i) := by
        intro l
        rw [List.filter_filter]
        refine List.filter_congr fun k _ => ?_
        simp only [also]
        cases hki : (k == i) <;> cases D k <;> simp_all
      have hcnt' : ((List.range' m (m2 - m)).filter (fun k => !also D i k)).length = cnt := by
        rw [hfilt]
        have hmem : i ∈ (List.range' m (m2 - m)).filter (fun k => !D k) := List.mem_filter.2 ⟨by rw [List.mem_range'_1]; omega, by simp [hDi]⟩
        have hndr : ((List.range' m (m2 - m)).filter (fun k => !D k)).Nodup := (List.nodup_range' (step := 1) (by omega)).sublist List.filter_sublist
        obtain ⟨pre, post, hsplit⟩ := List.append_of_mem hmem
        rw [hsplit] at hndr hcnt ⊢
        rw [List.nodup_append] at hndr
        obtain ⟨_, n2, n3⟩ := hndr
        have n4 : i ∉ pre := fun h => n3 i h i (by simp) rfl
        rw [List.filter_append, List.filter_cons, filter_ne n4, filter_ne (List.nodup_cons.1 n2).1]
        simp at hcnt ⊢
        omega
      by_cases hfi : fl.map (·.1) = some i
      · -- the float
        cases fl with
        | none => simp at hfi
        | some f =>
          obtain ⟨j, d, z⟩ := f
          simp only [Option.map_some, Option.some.injEq] at hfi
          subst hfi
          obtain ⟨oj, hoj, hdst, hgd, hrun⟩ := (hfl j d z rfl).ex
          rw [hoi] at hoj
          cases hoj
          rcases hmode with ⟨_, rfl⟩ | ⟨g1, _⟩
          · unfold wpOp
            simp only [h2]
            rw [if_pos (by simp [Region.wanted, hgd])]
            refine .inl ?_
            unfold Oper.wp
            rw [hrun]
            simp only [Oper.upon, hdst]
            have ⟨g1, g2⟩ := hM.alloc z
            have hk : Kept [] w { w with heap := w.heap.push z } := ((Mem.start w []).alloc z).2.kept
            refine ih (also D j) _ a _ _ hl' hD' hhigh' hlow' hcl' hcnt' (hM.call hk) (.inr ⟨by simp [also], w.heap.size, g1, g2, rfl⟩) ?_
            have : π.filter (fun k => !also D j k) = π.filter (fun k => !D k) := by
              rw [hfilt]
              refine filter_ne fun h => ?_
              have := hlt j (List.mem_filter.1 h).1
              simp at this
            rw [this]
            exact seqI_weak hs hk
          · rw [hDi] at g1; cases g1
      · have hiπ : i ∈ π := by
          have := hin i (by rw [List.mem_range'_1]; omega)
          simpa [hfi] using this
        have hirem : i ∈ π.filter (fun i => !D i) := List.mem_filter.2 ⟨hiπ, by simp [hDi]⟩
        obtain ⟨pre, post, hsplit⟩ := List.append_of_mem hirem
        have hndr : (π.filter (fun i => !D i)).Nodup := hnd.sublist List.filter_sublist
        have hpwr := hpw.sublist (List.filter_sublist (p := fun i => !D i))
        rw [hsplit] at hs hndr hpwr
        have hpre : ∀ p ∈ pre, ∃ op, ops.toArray[p]? = some op ∧ isEf op = false ∧ Off ops.toArray op o := by
          intro p hp
          have hpD : D p = false := by
            have : p ∈ π.filter (fun i => !D i) := by rw [hsplit]; simp [hp]
            simpa using (List.mem_filter.1 this).2
          obtain ⟨op, oi, g1, g2, g3⟩ := (List.pairwise_append.1 hpwr).2.2 p hp i (by simp)
          rw [hoi] at g2
          cases g2
          rcases g3 with g3 | ⟨g3, g4⟩
          · have := masks_spec hcl hoi hdeps g3
            rw [hpD] at this
            cases this
          · obtain ⟨e1, e2, e3⟩ := Oper.apart_spec g3
            exact ⟨op, by simpa using g1, g4, ⟨e1, e2, e3⟩⟩
        have hni : i ∉ pre ∧ i ∉ post := by
          rw [List.nodup_append] at hndr
          obtain ⟨_, n2, n3⟩ := hndr
          exact ⟨fun h => n3 i h i (by simp) rfl, (List.nodup_cons.1 n2).1⟩
        have hrem : π.filter (fun k => !also D i k) = pre ++ post := by
          rw [hfilt, hsplit, List.filter_append, List.filter_cons, filter_ne hni.1, filter_ne hni.2]
          simp
        have hF0 := seqE_move hselo h2 post pre a0 w hpre hM hs
        -- the same from the act that stands
        have hF : FirstI P w0 X L C ops.toArray i (fun a' w' => C w w' → Mem w0 X L w' → wpAny P .any ops.toArray Q (cnt + (ops.length - m2)) (listed.setIfInBounds i true) a' w') a w := by
          cases fl with
          | none =>
            simp only [Mode2] at hmode
            subst hmode
            refine FirstI.mono h2 hF0 fun v w' hq hk hM' => ?_
            exact ih (also D i) _ _ _ w' hl' hD' hhigh' hlow' hcl' hcnt' hM' rfl (by rw [hrem]; exact hq)
          | some f =>
            obtain ⟨j, d, z⟩ := f
            have hij : i ≠ j := fun h => hfi (by simp [h])
            rcases hmode with ⟨g1, rfl⟩ | ⟨g1, b, hb, hMb, rfl⟩
            · refine FirstI.mono h2 hF0 fun v w' hq hk hM' => ?_
              exact ih (also D i) _ _ _ w' hl' hD' hhigh' hlow' hcl' hcnt' hM' (.inl ⟨by simp [also, g1, Ne.symm hij], rfl⟩) (by rw [hrem]; exact hq)
            · obtain ⟨oj, hoj, hdst, hgd, hrun⟩ := (hfl j d z rfl).ex
              have hap := hflB
              simp only [Option.map_some, Bool.and_eq_true, hoj] at hap
              have hap := List.all_eq_true.1 hap.2 i hiπ
              simp only [hoi] at hap
              obtain ⟨e1, e2, e3⟩ := Oper.apart_spec hap
              rw [← hdst]
              refine firstE_unput (op := oj) (hselo i o h2) h2 ⟨e1, e2, e3⟩ ?_
              refine FirstI.mono h2 hF0 fun v w' hq hk hM' => ?_
              have hrow := ((hC (by simp)).2 _ _ hk).row hMb.r0 (fun h => by have := (hC (by simp)).1 b h; omega)
              have hMb' : Mem w0 X ((b, z) :: L) w' := hM'.add hrow (by
                intro p hp
                have := hMb.apart
                simp only [List.map_cons, List.pairwise_cons] at this
                exact this.1 p.1 (List.mem_map.2 ⟨p, hp, rfl⟩))
              exact ih (also D i) _ _ _ w' hl' hD' hhigh' hlow' hcl' hcnt' hM' (.inr ⟨by simp [also, g1], b, hb, hMb', by rw [hdst]⟩) (by rw [hrem]; exact hq)
        obtain ⟨o', ho', hF⟩ := hF
        rw [h2] at ho'
        cases ho'
        unfold wpOp
        simp only [h2]
        rcases hF with ⟨f1, f2⟩ | ⟨f1, _, f, args, f3, f4⟩ | ⟨f1, _, v, w', f3, f5, f6, f4⟩ | ⟨f1, _, v, f3, f4⟩
        · rw [if_neg (by rw [f1]; simp)]
          exact f2 (hCr _) hM
        · rw [if_pos f1]
          refine .inl ?_
          unfold Oper.wp
          rw [f3]
          simp only [Oper.upon]
          refine f4.mono ?_
          rintro e w' ⟨v, rfl, hX', hM', hq⟩
          exact hq hX' hM'
        · rw [if_pos f1]
          refine .inl ?_
          unfold Oper.wp
          rw [f3]
          simp only [Oper.upon]
          exact f4 f5 f6
        · rw [if_pos f1]
          refine .inl ?_
          unfold Oper.wp
          rw [f3 w hM]
          simp only [Oper.upon]
          exact f4 (hCr _) hM

theorem E_all2 {a : Act} {w : World} {m m2 : Nat} {π : List Nat} {fv : Nat → Value} {fl : Option (Nat × Tmp × Obj)} (hB : effB ops m m2 π (fl.map (·.1)) = true) (hfl : ∀ j d z, fl = some (j, d, z) → FlOk2 P ops j d z fv) (hC : fl ≠ none → (∀ x ∈ X, x < w0.heap.size) ∧ ∀ w w', C w w' → Kept X w w') (hCr : ∀ w, C w w) (M : Mem w0 X L w)
    (h : EV P w0 X L C ops.toArray (endE2 fv w0 X L (fun a w => wpAny P .any ops.toArray Q (ops.length - m2) (upTo m2 ops.length) a w) (fl.map (·.2))) (π.filterMap fun i => ops[i]?) a w) :
    wpAny P .any ops.toArray Q (ops.length - m) (upTo m ops.length) a w := by
  have hB0 := hB
  simp only [effB, Bool.and_eq_true, decide_eq_true_eq, List.all_eq_true] at hB0
  obtain ⟨⟨⟨⟨⟨⟨⟨⟨⟨_, h4⟩, _⟩, hlt0⟩, _⟩, _⟩, hmm⟩, hm2⟩, _⟩, hflB⟩ := hB0
  have hlt : ∀ i ∈ π, ∃ o, ops.toArray[i]? = some o := fun i hi => by
    have hi' : i < ops.length := by have := (hlt0 i hi).1; omega
    exact ⟨ops[i], by rw [List.getElem?_toArray]; exact List.getElem?_eq_getElem hi'⟩
  have hback : ∀ j o, ops[j]? = some o → ∀ e ∈ o.after, Region.binds .any e = true → e.on < j := by
    intro j o hj e he hb
    have := h4 (o, j) (List.mem_zipIdx_iff_getElem?.2 (by simpa using hj))
    have := Array.all_eq_true_iff_forall_mem.1 this e he
    simpa [hb] using this
  have hf : π.filter (fun i => !decide (i < m)) = π := List.filter_eq_self.2 fun i hi => by
    have := (hlt0 i hi).1
    simp; omega
  have hr : (List.range' m (m2 - m)).filter (fun i => !decide (i < m)) = List.range' m (m2 - m) := List.filter_eq_self.2 fun i hi => by
    rw [List.mem_range'_1] at hi
    simp; omega
  have := eff_main2 (fv := fv) (w0 := w0) (X := X) (L := L) (Q := Q) hB hfl hC hCr (m2 - m) (fun i => decide (i < m)) (upTo m ops.length) a a w (upTo_size _ _) (fun i => (upTo_getD_false (by omega)).symm) (fun i h => by simp; omega) (fun i h => by simp; omega) (upTo_closed hback m) (by rw [hr]; simp) M
    (by
      cases fl with
      | none => exact rfl
      | some f =>
        obtain ⟨j, d, z⟩ := f
        simp at hflB
        exact .inl ⟨by simp; omega, rfl⟩)
    (by rw [hf]; exact seqI_of_seqE π a w hlt (by simpa using h.out))
  rw [show m2 - m + (ops.length - m2) = ops.length - m by omega] at this
  exact this
/-- Operation j, an allocation, floats. -/
theorem E_float2 (fv : Nat → Value) {a : Act} {w : World} (m m2 : Nat) (π : List Nat) (j : Nat) (d : Tmp) (z : Obj) (hB : effB ops m m2 π (some j) = true) (hj : FlOk2 P ops j d z fv) (hX : ∀ x ∈ X, x < w0.heap.size) (M : Mem w0 X L w)
    (h : EV P w0 X L (Kept X) ops.toArray (fun a w => ∀ b w', Kept [] w w' → w0.heap.size ≤ b → Mem w0 X ((b, z) :: L) w' → wpAny P .any ops.toArray Q (ops.length - m2) (upTo m2 ops.length) (a.put (some d) (fv b)) w') (π.filterMap fun i => ops[i]?) a w) :
    wpAny P .any ops.toArray Q (ops.length - m) (upTo m ops.length) a w :=
  E_all2 (fv := fv) (fl := some (j, d, z)) hB (by rintro _ _ _ ⟨⟩; exact hj) (fun _ => ⟨hX, fun _ _ h => h⟩) (Kept.refl _) M h
end
end Go.Own

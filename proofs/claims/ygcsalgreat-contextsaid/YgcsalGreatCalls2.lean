/-
  C_region for a stage only: the rest of the region waits for it.
-/
import Derived.Test.YgcsalGreatCalls
set_option linter.unusedSimpArgs false
set_option linter.unusedVariables false
namespace Go.Own
def callsB2 (ops : List Oper) (m2 : Nat) (π : List Nat) : Bool :=
  Region.noSelect ops.toArray && (ops.zipIdx.all fun p => p.1.after.all fun e => !Region.binds .any e || decide (e.on < p.2)) &&
  ((List.range m2).all fun i => π.contains i) && (π.all fun i => decide (i < m2)) && decide π.Nodup && decide (π.length = m2) && pairsB ops (masks ops) π && decide (m2 ≤ ops.length) &&
  ((List.range' m2 (ops.length - m2)).all fun j => (List.range m2).all fun i => ((masks ops).getD j 0).testBit i)
section
variable {P : Program} {w0 : World} {X : List Nat} {L : List (Nat × Obj)} {ops : List Oper} {Q : Exit → Act → World → Prop} {π : List Nat}
theorem calls_main2 {m2 : Nat} (hB : callsB2 ops m2 π = true) : ∀ (cnt : Nat) (D : Nat → Bool) (listed : Array Bool) (a : Act) (w : World), listed.size = ops.length → (∀ i, D i = listed.getD i false) → (∀ i, m2 ≤ i → D i = false) → Closed ops D →
    (π.filter (fun i => !D i)).length = cnt → Mem w0 X L w → seqR P w0 X L ops.toArray (fun a w => Mem w0 X L w → wpAny P .any ops.toArray Q (ops.length - m2) (upTo m2 ops.length) a w) (π.filter (fun i => !D i)) a w → wpAny P .any ops.toArray Q (cnt + (ops.length - m2)) listed a w := by
  simp only [callsB2, Bool.and_eq_true, decide_eq_true_eq, List.all_eq_true, List.mem_range] at hB
  obtain ⟨⟨⟨⟨⟨⟨⟨⟨hsel, h4⟩, hin⟩, hlt⟩, hnd⟩, hlen⟩, hpairs⟩, hm2⟩, hbar0⟩ := hB
  have hbar : ∀ i j, i < m2 → m2 ≤ j → j < ops.length → ((masks ops).getD j 0).testBit i = true := fun i j h1 h2 h3 => hbar0 j (by rw [List.mem_range'_1]; omega) i h1
  have hback : ∀ j o, ops[j]? = some o → ∀ e ∈ o.after, Region.binds .any e = true → e.on < j := by
    intro j o hj e he hb
    have := h4 (o, j) (List.mem_zipIdx_iff_getElem?.2 (by simpa using hj))
    have := Array.all_eq_true_iff_forall_mem.1 this e he
    simpa [hb] using this
  have hpw := pairsB_spec hpairs
  have hmem : ∀ i, i < m2 → i ∈ π := fun i hi => by have := hin i hi; simpa using this
  have hselo : ∀ (i : Nat) (o : Oper), ops.toArray[i]? = some o → ∀ cs b, o.op ≠ .select cs b := fun i o hi cs b => Region.noSelect_spec hsel i o cs b hi
  intro cnt
  induction cnt with
  | zero =>
    intro D listed a w hsz hDl hhigh hcl hcnt hM hs
    have hnil : π.filter (fun i => !D i) = [] := List.length_eq_zero_iff.1 hcnt
    rw [hnil] at hs
    have hall : ∀ i, i < m2 → D i = true := by
      intro i hi
      have := List.filter_eq_nil_iff.1 hnil i (hmem i hi)
      simpa using this
    have hlisted : listed = upTo m2 ops.length := by
      apply Array.ext_getElem?
      intro i
      by_cases hi : i < ops.length
      · have h1 := hDl i
        simp only [upTo, List.getElem?_toArray, List.getElem?_map, List.getElem?_range hi, Option.map_some]
        rw [Array.getElem?_eq_getElem (by omega)]
        rw [Array.getD_eq_getD_getElem?, Array.getElem?_eq_getElem (by omega)] at h1
        simp only [Option.getD_some] at h1
        rw [← h1]
        by_cases hi2 : i < m2
        · simp [hall i hi2, hi2]
        · simp [hhigh i (by omega), hi2]
      · simp only [upTo, List.getElem?_toArray, List.getElem?_map]
        rw [Array.getElem?_eq_none (by omega), List.getElem?_eq_none (by simp; omega)]
        rfl
    rw [Nat.zero_add, hlisted]
    exact hs hM
  | succ cnt ih =>
    intro D listed a w hsz hDl hhigh hcl hcnt hM hs
    rw [show cnt + 1 + (ops.length - m2) = (cnt + (ops.length - m2)) + 1 from by omega]
    have hgetT : ∀ i, i < ops.length → listed.getD i true = D i := by
      intro i hi
      rw [hDl i]
      exact getD_any (by omega) true false
    refine ⟨fun h0 => ?_, fun i hi => ?_⟩
    · exfalso
      have hpos : 0 < (π.filter (fun i => !D i)).length := by omega
      obtain ⟨i, hi⟩ := List.exists_mem_of_length_pos hpos
      rw [List.mem_filter] at hi
      have hex : ∃ i, i < ops.length ∧ D i = false := ⟨i, by have := hlt i hi.1; omega, by simpa using hi.2⟩
      have hleast : ∀ k i, i ≤ k → i < ops.length → D i = false → ∃ j, j < ops.length ∧ D j = false ∧ ∀ j', j' < j → D j' = true := by
        intro k
        induction k with
        | zero => intro i h1 h2 h3; exact ⟨i, h2, h3, fun j' hj' => by omega⟩
        | succ k ihk =>
          intro i h1 h2 h3
          by_cases hb : ∃ j', j' < i ∧ D j' = false
          · obtain ⟨j', g2, g3⟩ := hb
            exact ihk j' (by omega) (by omega) g3
          · refine ⟨i, h2, h3, fun j' hj' => ?_⟩
            cases hDj : D j' with
            | true => rfl
            | false => exact absurd ⟨j', hj', hDj⟩ hb
      obtain ⟨i, h2, h3⟩ := hex
      obtain ⟨j, g2, g3, g4⟩ := hleast i i (Nat.le_refl _) h2 h3
      have hj : ops[j]? = some ops[j] := List.getElem?_eq_getElem (by omega)
      have : j ∈ Region.ready .any ops.toArray listed := mem_ready.2 ⟨by rw [hgetT j g2]; exact g3, ops[j], by rw [List.getElem?_toArray]; exact hj, fun e he hb => by rw [← hDl]; exact g4 _ (hback j _ hj e he hb)⟩
      rw [h0] at this
      cases this
    · obtain ⟨h1, o, h2, h3⟩ := mem_ready.1 hi
      have hoi : ops[i]? = some o := by simpa using h2
      have hilen : i < ops.length := (List.getElem?_eq_some_iff.1 hoi).1
      have hDi : D i = false := by rw [← hgetT i hilen]; exact h1
      have hdeps : ∀ e ∈ o.after, Region.binds .any e = true → D e.on = true := fun e he hb => by rw [hDl]; exact h3 e he hb
      have hi2 : i < m2 := by
        rcases Nat.lt_or_ge i m2 with h | h
        · exact h
        · exfalso
          have hpos : 0 < (π.filter (fun i => !D i)).length := by omega
          obtain ⟨j, hj⟩ := List.exists_mem_of_length_pos hpos
          rw [List.mem_filter] at hj
          have := masks_spec hcl hoi hdeps (hbar j i (hlt j hj.1) h hilen)
          simp [this] at hj
      have hirem : i ∈ π.filter (fun i => !D i) := List.mem_filter.2 ⟨hmem i hi2, by simp [hDi]⟩
      obtain ⟨pre, post, hsplit⟩ := List.append_of_mem hirem
      have hndr : (π.filter (fun i => !D i)).Nodup := hnd.sublist List.filter_sublist
      have hpwr := hpw.sublist (List.filter_sublist (p := fun i => !D i))
      rw [hsplit] at hs hndr hpwr
      have hpre : ∀ p ∈ pre, ∃ op, ops.toArray[p]? = some op ∧ isSp op = false ∧ Off ops.toArray op o := by
        intro p hp
        have hpD : D p = false := by
          have : p ∈ π.filter (fun i => !D i) := by rw [hsplit]; simp [hp]
          simpa using (List.mem_filter.1 this).2
        obtain ⟨op, oi, g1, g2, g3⟩ := (List.pairwise_append.1 hpwr).2.2 p hp i (by simp)
        rw [hoi] at g2
        cases g2
        rcases g3 with g3 | ⟨g3, g4⟩
        · have := masks_spec hcl hoi hdeps g3
          rw [hpD] at this
          cases this
        · obtain ⟨e1, e2, e3⟩ := Oper.apart_spec g3
          exact ⟨op, by simpa using g1, g4, ⟨e1, e2, e3⟩⟩
      have hF := seq_move hselo h2 post pre a w hpre hs
      have hni : i ∉ pre ∧ i ∉ post := by
        rw [List.nodup_append] at hndr
        obtain ⟨_, n2, n3⟩ := hndr
        exact ⟨fun h => n3 i h i (by simp) rfl, (List.nodup_cons.1 n2).1⟩
      have hrem : π.filter (fun k => !also D i k) = pre ++ post := by
        have e1 : π.filter (fun k => !also D i k) = (π.filter (fun k => !D k)).filter (fun k => k != i) := by
          rw [List.filter_filter]
          refine List.filter_congr fun k _ => ?_
          simp only [also]
          cases hki : (k == i) <;> cases D k <;> simp_all
        rw [e1, hsplit, List.filter_append, List.filter_cons, filter_ne hni.1, filter_ne hni.2]
        simp
      have hl' : (listed.setIfInBounds i true).size = ops.length := by simp [hsz]
      have hD' : ∀ k, also D i k = (listed.setIfInBounds i true).getD k false := by
        intro k
        by_cases hk : k = i
        · subst hk; simp [also, hsz, hilen]
        · rw [getD_set_ne false (Ne.symm hk), ← hDl k]; simp [also, hk]
      have hhigh' : ∀ k, m2 ≤ k → also D i k = false := fun k hk => by simp [also, hhigh k hk]; omega
      have hcl' : Closed ops (also D i) := by
        intro j oj hj hDj e he hb
        by_cases hji : j = i
        · subst hji
          rw [hoi] at hj; cases hj
          simp [also, hdeps e he hb]
        · have : D j = true := by simpa [also, hji] using hDj
          simp [also, hcl j oj hj this e he hb]
      have hcnt' : (π.filter (fun k => !also D i k)).length = cnt := by
        rw [hrem]
        rw [hsplit] at hcnt
        simp at hcnt ⊢
        omega
      have hnext : ∀ v w', Mem w0 X L w' → seqR P w0 X L ops.toArray (fun a w => Mem w0 X L w → wpAny P .any ops.toArray Q (ops.length - m2) (upTo m2 ops.length) a w) (pre ++ post) (a.put o.dst v) w' → wpAny P .any ops.toArray Q (cnt + (ops.length - m2)) (listed.setIfInBounds i true) (a.put o.dst v) w' :=
        fun v w' hM' hq => ih (also D i) _ _ w' hl' hD' hhigh' hcl' hcnt' hM' (by rw [hrem]; exact hq)
      obtain ⟨o', ho', hF⟩ := hF
      rw [h2] at ho'
      cases ho'
      unfold wpOp
      simp only [h2]
      rcases hF with ⟨f1, f2⟩ | ⟨f1, _, f, args, f3, f4⟩ | ⟨f1, _, v, f3, f4⟩
      · rw [if_neg (by rw [f1]; simp)]
        exact hnext _ _ hM f2
      · rw [if_pos f1]
        refine .inl ?_
        unfold Oper.wp
        rw [f3]
        simp only [Oper.upon]
        refine f4.mono ?_
        rintro e w' ⟨v, rfl, hM', hq⟩
        exact hnext _ _ hM' hq
      · rw [if_pos f1]
        refine .inl ?_
        unfold Oper.wp
        rw [f3 w hM]
        simp only [Oper.upon]
        exact hnext _ _ hM f4

theorem C_stage {a : Act} {w : World} (m2 : Nat) (π : List Nat) (hB : callsB2 ops m2 π = true) (M : Mem w0 X L w) (h : SeqV P w0 X L ops.toArray (fun a w => Mem w0 X L w → wpAny P .any ops.toArray Q (ops.length - m2) (upTo m2 ops.length) a w) (π.filterMap fun i => ops[i]?) a w) :
    wpAny P .any ops.toArray Q (ops.length - 0) (upTo 0 ops.length) a w := by
  have hB0 := hB
  simp only [callsB2, Bool.and_eq_true, decide_eq_true_eq, List.all_eq_true] at hB0
  obtain ⟨⟨⟨⟨⟨⟨⟨_, _⟩, hlt0⟩, _⟩, hlen⟩, _⟩, hm2⟩, _⟩ := hB0
  have hlt : ∀ i ∈ π, ∃ o, ops.toArray[i]? = some o := fun i hi => by
    have hi' : i < ops.length := by have := hlt0 i hi; omega
    exact ⟨ops[i], by rw [List.getElem?_toArray]; exact List.getElem?_eq_getElem hi'⟩
  have hf : π.filter (fun i => !decide (i < 0)) = π := List.filter_eq_self.2 fun i _ => by simp
  have := calls_main2 (w0 := w0) (X := X) (L := L) (Q := Q) hB m2 (fun i => decide (i < 0)) (upTo 0 ops.length) a w (upTo_size _ _) (fun i => (upTo_getD_false (by omega)).symm) (fun i _ => by simp) ?_ (by rw [hf, hlen]) M
    (by rw [hf]; exact seqR_of_seqL π a w hlt (by simpa using h.out))
  · rw [show m2 + (ops.length - m2) = ops.length - 0 by omega] at this
    exact this
  · intro j o _ hD
    simp at hD
end
end Go.Own

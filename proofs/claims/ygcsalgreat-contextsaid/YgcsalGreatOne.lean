/-
  A stage that only reads, but for one store at its end in the text: the store may come at any time that its own edges allow. The others read no cell of its block.
-/
import Derived.Test.YgcsalGreatQuiet
set_option linter.unusedSimpArgs false
set_option linter.unusedVariables false
namespace Go.Own
section
variable {P : Program} {w0 : World} {X : List Nat} {L : List (Nat × Obj)} {Q : Exit → Act → World → Prop} {ops : List Oper} {a0 : Act} {m m1 : Nat} {vals : Nat → Value} {b : Nat} {o1 o2 : Obj} {ost : Oper}

theorem one_main (hB : stageB ops m (m1 + 1) = true) (hm : m ≤ m1)
    (hvals : ∀ i o, m ≤ i → i < m1 → ops[i]? = some o → OpGave P w0 X L ops.toArray o (puts ops vals (fun _ => true) (List.range' m (i - m)) a0) (vals i))
    (host : ops[m1]? = some ost) (hvm : vals m1 = undef) (hwst : Region.wanted ost (yielded ops.toArray (puts ops vals (fun _ => true) (List.range' m (m1 - m)) a0).tmps) = true)
    (hst : ∀ w, Mem w0 X ((b, o1) :: L) w → ∃ w', (execOp (puts ops vals (fun _ => true) (List.range' m (m1 - m)) a0).eval ost).run P w = .ok .skip w' ∧ Mem w0 X ((b, o2) :: L) w')
    (hF : ∀ (w' : World), Mem w0 X ((b, o2) :: L) w' →
      wpAny P .any ops.toArray Q (ops.length - (m1 + 1)) (upTo (m1 + 1) ops.length) (puts ops vals (fun _ => true) (List.range' m (m1 + 1 - m)) a0) w') :
    ∀ (cnt : Nat) (D : Nat → Bool) (listed : Array Bool) (a : Act) (w : World), listed.size = ops.length → (∀ i, D i = listed.getD i false) → (∀ i, i < m → D i = true) → (∀ i, m1 + 1 ≤ i → D i = false) →
      Closed ops D → ((List.range' m (m1 + 1 - m)).filter (fun i => !D i)).length = cnt → a = puts ops vals D (List.range' m (m1 + 1 - m)) a0 →
      Mem w0 X ((b, if D m1 then o2 else o1) :: L) w → wpAny P .any ops.toArray Q (cnt + (ops.length - (m1 + 1))) listed a w := by
  obtain ⟨hlen, hmm2, hsel, hback, hap, hbar⟩ := stageB_spec hB
  intro cnt
  induction cnt with
  | zero =>
    intro D listed a w hsz hDl hlow hhigh hcl hcnt ha hM
    have hall : ∀ i, m ≤ i → i < (m1 + 1) → D i = true := by
      intro i h1 h2
      have : (List.range' m ((m1 + 1) - m)).filter (fun i => !D i) = [] := List.length_eq_zero_iff.1 hcnt
      have := List.filter_eq_nil_iff.1 this i (by simp [List.mem_range'_1]; omega)
      simpa using this
    have hlisted : listed = upTo (m1 + 1) ops.length := by
      apply Array.ext_getElem?
      intro i
      by_cases hi : i < ops.length
      · have h1 := hDl i
        simp only [upTo, List.getElem?_toArray, List.getElem?_map, List.getElem?_range hi, Option.map_some]
        rw [Array.getElem?_eq_getElem (by omega)]
        rw [Array.getD_eq_getD_getElem?, Array.getElem?_eq_getElem (by omega)] at h1
        simp only [Option.getD_some] at h1
        rw [← h1]
        by_cases hi2 : i < m1 + 1
        · by_cases him : i < m
          · simp [hlow i him, hi2]
          · simp [hall i (by omega) hi2, hi2]
        · simp [hhigh i (by omega), hi2]
      · simp only [upTo, List.getElem?_toArray, List.getElem?_map]
        rw [Array.getElem?_eq_none (by omega), List.getElem?_eq_none (by simp; omega)]
        rfl
    rw [if_pos (hall m1 hm (by omega))] at hM
    have key := hF w hM
    rw [Nat.zero_add, hlisted]
    have ha' : a = puts ops vals (fun _ => true) (List.range' m (m1 + 1 - m)) a0 := by
      rw [ha]
      exact puts_congr ops vals vals D (fun _ => true) _ a0 (fun i hi => by
        simp only [List.mem_range'_1] at hi; exact ⟨hall i (by omega) (by omega), fun _ => rfl⟩)
    rw [ha']
    exact key
  | succ cnt ih =>
    intro D listed a w hsz hDl hlow hhigh hcl hcnt ha hM
    have hgetT : ∀ i, i < ops.length → listed.getD i true = D i := by
      intro i hi
      rw [hDl i, Array.getD_eq_getD_getElem?, Array.getD_eq_getD_getElem?, Array.getElem?_eq_getElem (by omega)]
      simp
    rw [show cnt + 1 + (ops.length - (m1 + 1)) = (cnt + (ops.length - (m1 + 1))) + 1 from by omega]
    have hready : ∀ i, i ∈ Region.ready .any ops.toArray listed ↔ i < ops.length ∧ D i = false ∧ ∃ o, ops[i]? = some o ∧ ∀ e ∈ o.after, Region.binds .any e = true → D e.on = true := by
      intro i
      rw [mem_ready]
      constructor
      · rintro ⟨h1, o, h2, h3⟩
        have h2' : ops[i]? = some o := by simpa using h2
        have hi : i < ops.length := (List.getElem?_eq_some_iff.1 h2').1
        exact ⟨hi, by rw [← hgetT i hi]; exact h1, o, h2', fun e he hb => by rw [hDl]; exact h3 e he hb⟩
      · rintro ⟨hi, h1, o, h2, h3⟩
        exact ⟨by rw [hgetT i hi]; exact h1, o, by simpa using h2, fun e he hb => by rw [← hDl]; exact h3 e he hb⟩
    refine ⟨fun h0 => ?_, fun i hi => ?_⟩
    · -- some operation of the stage is ready
      exfalso
      have hex : ∃ i, m ≤ i ∧ i < (m1 + 1) ∧ D i = false := by
        have : 0 < ((List.range' m ((m1 + 1) - m)).filter (fun i => !D i)).length := by omega
        obtain ⟨i, hi⟩ := List.exists_mem_of_length_pos this
        rw [List.mem_filter, List.mem_range'_1] at hi
        exact ⟨i, by omega, by omega, by simpa using hi.2⟩
      -- the least one
      have hleast : ∀ k i, i ≤ m + k → m ≤ i → i < (m1 + 1) → D i = false → ∃ j, m ≤ j ∧ j < (m1 + 1) ∧ D j = false ∧ ∀ j', j' < j → D j' = true := by
        intro k
        induction k with
        | zero => intro i h1 h2 h3 h4; exact ⟨i, h2, h3, h4, fun j' hj' => hlow j' (by omega)⟩
        | succ k ihk =>
          intro i h1 h2 h3 h4
          by_cases hb : ∃ j', m ≤ j' ∧ j' < i ∧ D j' = false
          · obtain ⟨j', g1, g2, g3⟩ := hb
            exact ihk j' (by omega) g1 (by omega) g3
          · refine ⟨i, h2, h3, h4, fun j' hj' => ?_⟩
            by_cases hjm : j' < m
            · exact hlow j' hjm
            · cases hDj : D j' with
              | true => rfl
              | false => exact absurd ⟨j', by omega, hj', hDj⟩ hb
      obtain ⟨i, h1, h2, h3⟩ := hex
      obtain ⟨j, g1, g2, g3, g4⟩ := hleast (i - m) i (by omega) h1 h2 h3
      have hj : ops[j]? = some ops[j] := List.getElem?_eq_getElem (by omega)
      have := (hready j).2 ⟨by omega, g3, _, hj, fun e he hb => g4 _ (hback j _ hj e he hb)⟩
      rw [h0] at this
      cases this
    · obtain ⟨hilen, hDi, o, hoi, hdeps⟩ := (hready i).1 hi
      have him : m ≤ i := by
        rcases Nat.lt_or_ge i m with h | h
        · rw [hlow i h] at hDi; cases hDi
        · exact h
      have hi2 : i < m1 + 1 := by
        rcases Nat.lt_or_ge i (m1 + 1) with h | h
        · exact h
        · exfalso
          have hpos : 0 < ((List.range' m ((m1 + 1) - m)).filter (fun i => !D i)).length := by omega
          obtain ⟨j, hj⟩ := List.exists_mem_of_length_pos hpos
          rw [List.mem_filter, List.mem_range'_1] at hj
          have := masks_spec hcl hoi hdeps (hbar j i (by omega) (by omega) h hilen)
          simp [this] at hj
      -- the new state
      have hl' : (listed.setIfInBounds i true).size = ops.length := by simp [hsz]
      have hD' : ∀ k, also D i k = (listed.setIfInBounds i true).getD k false := by
        intro k
        by_cases hk : k = i
        · subst hk; simp [also, hsz, hilen]
        · rw [getD_set_ne false (Ne.symm hk), ← hDl k]; simp [also, hk]
      have hlow' : ∀ k, k < m → also D i k = true := fun k hk => by simp [also, hlow k hk]
      have hhigh' : ∀ k, (m1 + 1) ≤ k → also D i k = false := fun k hk => by simp [also, hhigh k hk]; omega
      have hcl' : Closed ops (also D i) := by
        intro j oj hj hDj e he hb
        by_cases hji : j = i
        · subst hji
          rw [hoi] at hj; cases hj
          simp [also, hdeps e he hb]
        · have : D j = true := by simpa [also, hji] using hDj
          simp [also, hcl j oj hj this e he hb]
      have hcnt' : ((List.range' m ((m1 + 1) - m)).filter (fun k => !also D i k)).length = cnt := by
        have := filter_not_also (D := D) (i := i) (List.range' m ((m1 + 1) - m)) (by simp [List.mem_range'_1]; omega) (List.pairwise_lt_range') hDi
        omega
      -- writers of a slot that o looks at
      have hslots : ∀ t ∈ o.looksAt ops.toArray, ∀ k, m ≤ k → k < (m1 + 1) → dstOf ops k = some t → D k = decide (k < i) := by
        intro t ht k hk1 hk2 hdk
        have hok : ops[k]? = some ops[k] := List.getElem?_eq_getElem (by omega)
        have hdk' : ops[k].dst = some t := by simpa [dstOf, hok] using hdk
        rcases Nat.lt_trichotomy k i with h | h | h
        · rcases hap k i _ o hk1 h hi2 hok hoi with h' | h'
          · exact absurd ht ((Oper.apart_spec h').1 t hdk')
          · simp [masks_spec hcl hoi hdeps h', h]
        · subst h; simp [hDi]
        · have hDk : D k = false := by
            cases hDk : D k with
            | false => rfl
            | true =>
              rcases hap i k o _ him h hk2 hoi hok with h' | h'
              · exact absurd ht ((Oper.apart_spec h').2.2 t hdk')
              · have := masks_spec hcl hok (fun e he hb => hcl k _ hok hDk e he hb) h'
                rw [this] at hDi; cases hDi
          simp [hDk]; omega
      have hnodst : ∀ j ∈ List.range' m ((m1 + 1) - m), i < j → D j = true → ∀ t, dstOf ops i = some t → dstOf ops j ≠ some t := by
        intro j hj hij hDj t ht hdj
        rw [List.mem_range'_1] at hj
        have hoj : ops[j]? = some ops[j] := List.getElem?_eq_getElem (by omega)
        have hdj' : ops[j].dst = some t := by simpa [dstOf, hoj] using hdj
        have hdi' : o.dst = some t := by simpa [dstOf, hoi] using ht
        rcases hap i j o _ him hij (by omega) hoi hoj with h' | h'
        · exact (Oper.apart_spec h').2.1 t hdi' hdj'
        · have := masks_spec hcl hoj (fun e he hb => hcl j _ hoj hDj e he hb) h'
          rw [this] at hDi; cases hDi
      have hdsti : dstOf ops i = o.dst := by simp [dstOf, hoi]
      have hsame : ∀ t ∈ o.looksAt ops.toArray, a.tmps[t]? = (puts ops vals (fun _ => true) (List.range' m (i - m)) a0).tmps[t]? := by
        intro t ht
        have e1 : puts ops vals (fun _ => true) (List.range' m (i - m)) a0 = puts ops vals (fun k => decide (k < i)) (List.range' m (m1 + 1 - m)) a0 := by
          have hsplit : List.range' m (m1 + 1 - m) = List.range' m (i - m) ++ List.range' i (m1 + 1 - i) := by
            have := List.range'_append_1 (s := m) (m := i - m) (n := m1 + 1 - i)
            rw [show m + (i - m) = i from by omega, show i - m + (m1 + 1 - i) = m1 + 1 - m from by omega] at this
            exact this.symm
          rw [hsplit, puts_append]
          rw [puts_congr ops vals vals (fun k => decide (k < i)) (fun _ => true) (List.range' m (i - m)) a0 (fun k hk => by
            rw [List.mem_range'_1] at hk; exact ⟨by simp; omega, fun _ => rfl⟩)]
          have hnone : ∀ (l : List Nat) (b : Act), (∀ k ∈ l, i ≤ k) → puts ops vals (fun k => decide (k < i)) l b = b := by
            intro l
            induction l with
            | nil => intro b _; rfl
            | cons k l ihl => intro b hb; rw [puts, if_neg (by have := hb k (by simp); simp; omega)]; exact ihl b (fun k' hk' => hb k' (by simp [hk']))
          rw [hnone _ _ (fun k hk => by rw [List.mem_range'_1] at hk; omega)]
        rw [ha, e1]
        refine puts_slot ops vals vals D _ t _ a0 a0 rfl rfl (fun k hk hdk => ?_)
        rw [List.mem_range'_1] at hk
        exact ⟨hslots t ht k (by omega) (by omega) hdk, fun _ => rfl⟩
      have hw := wanted_of_slots (a := a) (a' := puts ops vals (fun _ => true) (List.range' m (i - m)) a0) hsame
      have hx : execOp a.eval o = execOp (puts ops vals (fun _ => true) (List.range' m (i - m)) a0).eval o :=
        execOp_congr o (fun cs b => Region.noSelect_spec hsel i o cs b (by simpa using hoi)) (eval_of_slots hsame)
      have hput : a.put o.dst (vals i) = puts ops vals (also D i) (List.range' m (m1 + 1 - m)) a0 := by
        rw [puts_add ops vals D i _ a0 (by simp [List.mem_range'_1]; omega) (List.pairwise_lt_range') hDi hnodst, ← ha, hdsti]
      by_cases hi1 : i < m1
      · -- a quiet operation
        have hg := hvals i o him hi1 hoi
        have hrest : ∀ w', Kept [] w w' → wpAny P .any ops.toArray Q (cnt + (ops.length - (m1 + 1))) (listed.setIfInBounds i true) (a.put o.dst (vals i)) w' := by
          intro w' hk
          refine ih (also D i) _ _ w' hl' hD' hlow' hhigh' hcl' hcnt' hput ?_
          have : also D i m1 = D m1 := by simp [also]; omega
          rw [this]
          exact hM.call hk
        unfold wpOp
        simp only [List.getElem?_toArray, hoi]
        rcases hg with ⟨hwt, hgv⟩ | ⟨hwf, hv⟩
        · rw [if_pos (by rw [hw]; exact hwt)]
          refine .inl (wp_of_gives (v := vals i) ?_ hrest)
          rw [hx]
          exact hgv w hM.tail
        · rw [if_neg (by rw [hw, hwf]; simp)]
          rw [← hv]
          exact hrest w (Kept.refl _ _)
      · -- the store
        have hie : i = m1 := by omega
        subst hie
        rw [hoi] at host
        cases host
        rw [hDi, if_neg (by simp)] at hM
        obtain ⟨w', hrun, hM'⟩ := hst w hM
        unfold wpOp
        simp only [List.getElem?_toArray, hoi]
        rw [if_pos (by rw [hw]; exact hwst)]
        refine .inl ?_
        unfold Oper.wp
        rw [hx, hrun]
        simp only [Oper.upon]
        rw [← hvm]
        refine ih (also D i) _ _ w' hl' hD' hlow' hhigh' hcl' hcnt' hput ?_
        have : also D i i = true := by simp [also]
        rw [this, if_pos rfl]
        exact hM'

/-- A stage of reading operations m .. m1 - 1 and the store m1. -/
theorem V_one {a : Act} {w : World} (m m1 : Nat) (b : Nat) (o1 o2 : Obj) (ost : Oper) (hB : stageB ops m (m1 + 1) = true) (hm : m ≤ m1) (host : ops[m1]? = some ost) (M : Mem w0 X ((b, o1) :: L) w)
    (h : LexV P w0 X L ops.toArray (fun a1 => Region.wanted ost (yielded ops.toArray a1.tmps) = true ∧ (∀ w, Mem w0 X ((b, o1) :: L) w → ∃ w', (execOp a1.eval ost).run P w = .ok .skip w' ∧ Mem w0 X ((b, o2) :: L) w') ∧
      ∀ w', Mem w0 X ((b, o2) :: L) w' → wpAny P .any ops.toArray Q (ops.length - (m1 + 1)) (upTo (m1 + 1) ops.length) (a1.put ost.dst undef) w') ((ops.drop m).take (m1 - m)) a) :
    wpAny P .any ops.toArray Q (ops.length - m) (upTo m ops.length) a w := by
  obtain ⟨hlen, hmm2, hsel, hback, hap, hbar⟩ := stageB_spec hB
  have hl : ((ops.drop m).take (m1 - m)).length = m1 - m := by simp; omega
  obtain ⟨vals0, hv0, hF⟩ := lexQ_vals ((ops.drop m).take (m1 - m)) m a (fun j hj => by rw [hl] at hj; rw [List.getElem?_take_of_lt hj, List.getElem?_drop]) h.out
  rw [hl] at hF
  let vals : Nat → Value := fun i => if i = m1 then undef else vals0 i
  have hc : ∀ k, k ≤ m1 → puts ops vals0 (fun _ => true) (List.range' m (k - m)) a = puts ops vals (fun _ => true) (List.range' m (k - m)) a := by
    intro k hk
    refine puts_congr ops vals0 vals _ _ _ a (fun i hi => ⟨rfl, fun _ => ?_⟩)
    rw [List.mem_range'_1] at hi
    simp only [vals]
    rw [if_neg (by omega)]
  rw [hc m1 (Nat.le_refl _)] at hF
  have hvals : ∀ i o, m ≤ i → i < m1 → ops[i]? = some o → OpGave P w0 X L ops.toArray o (puts ops vals (fun _ => true) (List.range' m (i - m)) a) (vals i) := by
    intro i o h1 h2 h3
    have := hv0 (i - m) o (by rw [List.getElem?_take_of_lt (by omega), List.getElem?_drop, show m + (i - m) = i from by omega]; exact h3)
    rw [show m + (i - m) = i from by omega, hc i (by omega)] at this
    simp only [vals]
    rw [if_neg (by omega)]
    exact this
  have hvm : vals m1 = undef := by simp [vals]
  have hnone : ∀ (l : List Nat) (b : Act), (∀ k ∈ l, m ≤ k) → puts ops vals (fun k => decide (k < m)) l b = b := by
    intro l
    induction l with
    | nil => intro b _; rfl
    | cons k l ihl => intro b hb; rw [puts, if_neg (by have := hb k (by simp); simp; omega)]; exact ihl b (fun k' hk' => hb k' (by simp [hk']))
  have hfil : ((List.range' m (m1 + 1 - m)).filter (fun i => !decide (i < m))).length = m1 + 1 - m := by
    rw [List.filter_eq_self.2 (fun i hi => by rw [List.mem_range'_1] at hi; simp; omega)]; simp
  obtain ⟨hw, hst, hend⟩ := hF
  have hlast : puts ops vals (fun _ => true) (List.range' m (m1 + 1 - m)) a = (puts ops vals (fun _ => true) (List.range' m (m1 - m)) a).put ost.dst undef := by
    rw [show m1 + 1 - m = (m1 - m) + 1 by omega, List.range'_concat, puts_append, puts, puts]
    simp only [if_true, Nat.one_mul]
    rw [show m + (m1 - m) = m1 by omega, hvm]
    simp [dstOf, host]
  have := one_main (Q := Q) (o1 := o1) (o2 := o2) (b := b) hB hm hvals host hvm hw hst (by rw [hlast]; exact hend) (m1 + 1 - m) (fun i => decide (i < m)) (upTo m ops.length) a w (upTo_size _ _) (fun i => (upTo_getD_false (by omega)).symm)
    (fun i hi => by simpa using hi) (fun i hi => by simp; omega) (upTo_closed hback m) hfil
    (hnone _ _ (fun k hk => by rw [List.mem_range'_1] at hk; omega)).symm (by rw [if_neg (by simp; omega)]; exact M)
  rw [show m1 + 1 - m + (ops.length - (m1 + 1)) = ops.length - m from by omega] at this
  exact this
end
end Go.Own

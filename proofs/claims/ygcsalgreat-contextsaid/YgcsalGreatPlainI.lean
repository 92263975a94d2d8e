/-
  Plain mathematics: what a round leaves behind, and the invariant at the next place.
-/
import Derived.Test.YgcsalGreatRound2
namespace Go.Own
theorem roundU_length {us vs : List Nat} {n j : Nat} (hu : us.length = 9) (hj : j + n ≤ 8) : (roundU us vs n j).length = 9 := by
  simp only [roundU, List.length_append, List.length_take, nl_length, List.length_drop]; omega
theorem roundU_limbs {us vs : List Nat} {n j : Nat} (hlu : Limbs us) : Limbs (roundU us vs n j) := by
  intro x hx
  simp only [roundU, List.mem_append] at hx
  rcases hx with (hx | hx) | hx
  · exact hlu x (List.mem_of_mem_take hx)
  · exact nl_limbs _ _ x hx
  · exact hlu x (List.mem_of_mem_drop hx)
theorem roundU_drop {us vs : List Nat} {n j : Nat} (hu : us.length = 9) (hj : j + n ≤ 8) : (roundU us vs n j).drop j = nl (n + 1) (lval (win us n j) % lval (vs.take n)) ++ us.drop (j + n + 1) := by
  unfold roundU
  rw [List.append_assoc, List.drop_append_of_le_length (by simp; omega), List.drop_take, Nat.sub_self, List.take_zero, List.nil_append]
theorem roundU_win {us vs : List Nat} {n j : Nat} (hu : us.length = 9) (hj : j + n ≤ 8) : win (roundU us vs n j) n j = nl (n + 1) (lval (win us n j) % lval (vs.take n)) := by
  unfold win
  rw [roundU_drop hu hj, List.take_append_of_le_length (by rw [nl_length]; omega), List.take_of_length_le (by rw [nl_length]; omega)]
  rfl
theorem roundU_get {us vs : List Nat} {n j i : Nat} (hu : us.length = 9) (hj : j + n ≤ 8) (hi : i < j ∨ j + n < i) : us[i]? = (roundU us vs n j)[i]? := by
  unfold roundU
  rcases hi with hi | hi
  · rw [List.append_assoc, List.getElem?_append_left (by simp; omega), List.getElem?_take_of_lt hi]
  · rw [List.getElem?_append_right (by simp [nl_length]; omega), List.getElem?_drop]
    congr 1
    simp [nl_length]; omega
theorem win_get {us : List Nat} {n j i : Nat} (hi : i ≤ n) : (win us n j)[i]? = us[j + i]? := by
  unfold win; rw [List.getElem?_take_of_lt (by omega), List.getElem?_drop]
theorem win_getD {us : List Nat} {n j i : Nat} (hi : i ≤ n) (h : j + i < us.length) : us[j + i]? = some ((win us n j).getD i 0) := by
  rw [List.getD_eq_getElem?_getD, win_get hi, List.getElem?_eq_getElem h]; rfl
theorem round_owes {us vs : List Nat} {n j : Nat} (hu : us.length = 9) (hv : vs.length = 4) (hlu : Limbs us) (hlv : Limbs vs) (h : midB us vs n j = true) :
    lval (win us n j) / lval (vs.take n) * lval vs + lval (win (roundU us vs n j) n j) = lval (win us n j) ∧ lval (win (roundU us vs n j) n j) < lval vs ∧ lval (win us n j) / lval (vs.take n) < 18446744073709551616 ∧
    rt (win us n j) vs n - rq (win us n j) vs n ≤ 2 ∧ lval (win us n j) / lval (vs.take n) + (if rb (win us n j) vs n then 1 else 0) = rq (win us n j) vs n ∧
    (0 < j → midB (roundU us vs n j) vs n (j - 1) = true) := by
  obtain ⟨h1, h2, h3, h4, h5, h6, h7, h8⟩ := mid_facts hu hv hlu hlv h
  have hwl : (win us n j).length = n + 1 := by simp [win]; omega
  have hVl := lval_lt (hlv.take n)
  rw [show (vs.take n).length = n from by simp; omega] at hVl
  have hVpos : 0 < lval (vs.take n) := by
    rcases Nat.eq_zero_or_pos (lval (vs.take n)) with h | h
    · rw [h] at h7; omega
    · exact h
  have hmod := Nat.mod_lt (lval (win us n j)) hVpos
  have hrest : lval (win (roundU us vs n j) n j) = lval (win us n j) % lval (vs.take n) := by
    rw [roundU_win hu h3, nl_lval, Nat.mod_eq_of_lt]
    exact Nat.lt_of_lt_of_le (Nat.lt_trans hmod hVl) (Nat.pow_le_pow_right (by decide) (by omega))
  have hq : lval (win us n j) / lval (vs.take n) < 18446744073709551616 := (Nat.div_lt_iff_lt_mul hVpos).2 (by rw [Nat.mul_comm]; exact h7)
  have hsum := Nat.div_add_mod (lval (win us n j)) (lval (vs.take n))
  have g : ∀ i, i ≤ n → (win us n j)[i]? = some ((win us n j).getD i 0) := fun i hi => by rw [win_get hi]; exact win_getD hi (by omega)
  have gv : ∀ i, i < 4 → vs[i]? = some (vs.getD i 0) := fun i hi => by rw [getD_get (by omega)]; exact List.getElem?_eq_getElem _
  obtain ⟨m, rfl⟩ : ∃ m, n = m + 2 := ⟨n - 2, by omega⟩
  obtain ⟨k1, k2, k3⟩ := knuth_limbs (m := m) (ds := win us (m + 2) j) (es := vs.take (m + 2)) hwl (by simp; omega) ((hlu.drop _).take _) (hlv.take _) (g _ (by omega)) (g _ (by omega)) (g _ (by omega))
    (by rw [List.getElem?_take_of_lt (by omega)]; exact gv _ (by omega)) (by rw [List.getElem?_take_of_lt (by omega)]; exact gv _ (by omega)) h4 h7
  change _ ≤ rq (win us (m + 2) j) vs (m + 2) at k1
  change rq (win us (m + 2) j) vs (m + 2) ≤ _ at k2
  refine ⟨?_, ?_, hq, ?_, ?_, ?_⟩
  · rw [hrest, ← h5, Nat.mul_comm]; exact hsum
  · rw [hrest, ← h5]; exact hmod
  · have l5 : vs.getD (m + 2 - 2) 0 < 18446744073709551616 := by rw [getD_get (by omega)]; exact hlv.get _
    have := trial_fixes (high := (win us (m + 2) j).getD (m + 2) 0) (mid := (win us (m + 2) j).getD (m + 2 - 1) 0) (low := (win us (m + 2) j).getD (m + 2 - 2) 0) h4 l5
    have e : rt (win us (m + 2) j) vs (m + 2) ≤ rq (win us (m + 2) j) vs (m + 2) + 2 := this
    omega
  · unfold rb
    rcases (by omega : rq (win us (m + 2) j) vs (m + 2) = lval (win us (m + 2) j) / lval (vs.take (m + 2)) ∨ rq (win us (m + 2) j) vs (m + 2) = lval (win us (m + 2) j) / lval (vs.take (m + 2)) + 1) with e | e
    · rw [e]
      have : ¬ lval (win us (m + 2) j) < lval (win us (m + 2) j) / lval (vs.take (m + 2)) * lval (vs.take (m + 2)) := by rw [Nat.mul_comm]; omega
      simp [this]
    · rw [e]
      have : lval (win us (m + 2) j) < (lval (win us (m + 2) j) / lval (vs.take (m + 2)) + 1) * lval (vs.take (m + 2)) := by rw [Nat.add_mul, Nat.one_mul, Nat.mul_comm]; omega
      simp [this]
  · intro hj0
    simp only [midB, decide_eq_true_eq] at h ⊢
    obtain ⟨i1, i2, i3, i4, i5, i6⟩ := h
    refine ⟨i1, i2, by omega, i4, i5, ?_⟩
    rw [show j - 1 + 1 = j from by omega, roundU_drop hu h3, lval_append, h6, Nat.mul_zero, Nat.add_zero, ← roundU_win hu h3, hrest, ← h5]
    exact hmod
end Go.Own

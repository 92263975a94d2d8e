/-
  Plain mathematics: the invariant of Algorithm D.
-/
import Derived.Test.YgcsalGreatPlainB
namespace Go.Own

theorem llt_of_limb {ds es : List Nat} (hs : Limbs ds) {k : Nat} (hd : k < ds.length) (he : k < es.length) (h : ds.drop (k + 1) = es.drop (k + 1)) (hlt : ds[k] < es[k]) : lval ds < lval es := by
  rw [lval_split (xs := ds) (k := k + 1) (by omega), lval_split (xs := es) (k := k + 1) (by omega), h, lval_take_succ hd, lval_take_succ he]
  have h1 := lval_lt (hs.take k)
  rw [List.length_take, Nat.min_eq_left (by omega)] at h1
  have h2 : 18446744073709551616 ^ k * (ds[k] + 1) ≤ 18446744073709551616 ^ k * es[k] := Nat.mul_le_mul_left _ (by omega)
  rw [Nat.mul_add] at h2
  omega

/-- Ahead of the round at place j. -/
def midB (us vs : List Nat) (n j : Nat) : Bool :=
  decide (2 ≤ n ∧ n ≤ 4 ∧ j + n ≤ 8 ∧ lval vs < 2 ^ (64 * n) ∧ 2 ^ (64 * n - 1) ≤ lval vs ∧ lval (us.drop (j + 1)) < lval vs)
/-- What midHolds asks of the limbs. -/
def midH (us vs : List Nat) (n j : Nat) : Bool :=
  decide (9223372036854775808 ≤ vs.getD (n - 1) 0) && (us.drop (j + n + 1)).all (· == 0) && decide (lval ((us.drop (j + 1)).take n) < lval (vs.take n))

theorem tl_zero {ds : List Nat} : ∀ {k}, ∀ i, tl ds k ≤ i → i < k → ds.getD i 0 = 0
  | 0, i, _, h => by omega
  | k + 1, i, h1, h2 => by
    simp only [tl] at h1
    split at h1
    · rename_i h0
      by_cases hi : i = k
      · rw [hi]; exact h0
      · exact tl_zero i h1 (by omega)
    · omega
theorem tl_top {ds : List Nat} : ∀ {k}, 0 < tl ds k → ds.getD (tl ds k - 1) 0 ≠ 0
  | 0, h => by simp [tl] at h
  | k + 1, h => by
    simp only [tl] at h ⊢
    split
    · rename_i h0; rw [if_pos h0] at h; exact tl_top h
    · rename_i h0; simpa using h0
theorem lval_tl {ds : List Nat} : ∀ {k}, k ≤ ds.length → lval (ds.take (tl ds k)) = lval (ds.take k)
  | 0, _ => by simp [tl]
  | k + 1, h => by
    simp only [tl]
    split
    · rename_i h0
      have hk : k < ds.length := by omega
      rw [getD_get hk] at h0
      rw [lval_tl (k := k) (by omega), lval_take_succ hk, h0]; simp
    · rfl
theorem lval_zeros {l : List Nat} (h : l.all (· == 0) = true) : lval l = 0 := by
  induction l with
  | nil => rfl
  | cons x l ih => simp at h; simp [lval, h.1, ih (by simpa using h.2)]
theorem lval_pos {l : List Nat} (h : l.all (· == 0) = false) : 0 < lval l := by
  induction l with
  | nil => simp at h
  | cons x l ih =>
    simp only [List.all_cons, Bool.and_eq_false_iff] at h
    rcases h with h | h
    · have : x ≠ 0 := by simpa using h
      simp only [lval]; omega
    · have := ih h
      simp only [lval]; omega
theorem pow64 (n : Nat) : 18446744073709551616 ^ n = 2 ^ (64 * n) := by rw [Nat.pow_mul]
theorem half64 {n : Nat} (h : 1 ≤ n) : 2 ^ (64 * n - 1) = 18446744073709551616 ^ (n - 1) * 9223372036854775808 := by
  rw [pow64, show (9223372036854775808 : Nat) = 2 ^ 63 from by decide, ← Nat.pow_add]
  congr 1
  omega
/-- n limbs whose top one is there. -/
theorem lval_top {vs : List Nat} {n : Nat} (hv : Limbs vs) (hn : 1 ≤ n) (hl : n ≤ vs.length) : lval (vs.take n) = lval (vs.take (n - 1)) + 18446744073709551616 ^ (n - 1) * vs.getD (n - 1) 0 ∧ lval (vs.take (n - 1)) < 18446744073709551616 ^ (n - 1) := by
  have h1 := lval_take_succ (l := vs) (k := n - 1) (by omega)
  rw [show n - 1 + 1 = n from by omega] at h1
  have h2 := lval_lt (hv.take (n - 1))
  rw [List.length_take, Nat.min_eq_left (by omega)] at h2
  rw [getD_get (by omega)]
  exact ⟨h1, h2⟩
theorem top_half {vs : List Nat} {n : Nat} (hv : Limbs vs) (hn : 1 ≤ n) (hl : n ≤ vs.length) : 2 ^ (64 * n - 1) ≤ lval (vs.take n) ↔ 9223372036854775808 ≤ vs.getD (n - 1) 0 := by
  obtain ⟨h1, h2⟩ := lval_top hv hn hl
  rw [half64 hn, h1]
  generalize vs.getD (n - 1) 0 = y at *
  generalize 18446744073709551616 ^ (n - 1) = p at *
  constructor
  · intro h
    rcases Nat.lt_or_ge y 9223372036854775808 with hy | hy
    · have : p * (y + 1) ≤ p * 9223372036854775808 := Nat.mul_le_mul_left _ (by omega)
      rw [Nat.mul_add] at this
      omega
    · exact hy
  · intro h
    have : p * 9223372036854775808 ≤ p * y := Nat.mul_le_mul_left _ h
    omega
theorem midH_eq {us vs : List Nat} {n j : Nat} (hu : us.length = 9) (hv : vs.length = 4) (hlv : Limbs vs) (hn : 2 ≤ n) (hn' : n ≤ 4) (hj : j + n ≤ 8) (ht : tl vs 4 = n) : midH us vs n j = midB us vs n j := by
  have e1 : lval (vs.take n) = lval vs := by have := lval_tl (ds := vs) (k := 4) (by omega); rw [ht, ← hv, List.take_length] at this; exact this
  have e2 : lval vs < 2 ^ (64 * n) := by
    rw [← e1, ← pow64]
    have := lval_lt (hlv.take n)
    rw [List.length_take, Nat.min_eq_left (by omega)] at this
    exact this
  have e3 := top_half hlv (n := n) (by omega) (by omega)
  rw [e1] at e3
  have e4 : lval (us.drop (j + 1)) = lval ((us.drop (j + 1)).take n) + 18446744073709551616 ^ n * lval (us.drop (j + n + 1)) := by
    rw [lval_split (xs := us.drop (j + 1)) (k := n) (by simp; omega), List.drop_drop, show j + 1 + n = j + n + 1 from by omega]
  rw [Bool.eq_iff_iff]
  simp only [midH, midB, Bool.and_eq_true, decide_eq_true_eq, e1]
  constructor
  · rintro ⟨⟨h1, h2⟩, h3⟩
    rw [e4, lval_zeros h2]
    exact ⟨hn, hn', hj, e2, e3.2 h1, by simpa using h3⟩
  · rintro ⟨_, _, _, _, h5, h6⟩
    have hz : (us.drop (j + n + 1)).all (· == 0) = true := by
      cases hz : (us.drop (j + n + 1)).all (· == 0) with
      | true => rfl
      | false =>
        have := lval_pos hz
        rw [e4] at h6
        rw [← pow64] at e2
        have : 18446744073709551616 ^ n * 1 ≤ 18446744073709551616 ^ n * lval (us.drop (j + n + 1)) := Nat.mul_le_mul_left _ (by omega)
        omega
    refine ⟨⟨e3.1 h5, hz⟩, ?_⟩
    rw [e4, lval_zeros hz] at h6
    simpa using h6
theorem midB_tl {us vs : List Nat} {n j : Nat} (hv : vs.length = 4) (hlv : Limbs vs) (ht : tl vs 4 ≠ n) : midB us vs n j = false := by
  cases h : midB us vs n j with
  | false => rfl
  | true =>
    exfalso
    simp only [midB, decide_eq_true_eq] at h
    obtain ⟨h1, h2, _, h4, h5, _⟩ := h
    have e1 : lval (vs.take (tl vs 4)) = lval vs := by have := lval_tl (ds := vs) (k := 4) (by omega); rw [← hv, List.take_length] at this; rw [← hv]; exact this
    have hle := tl_le vs 4
    have hlt := lval_lt (hlv.take (tl vs 4))
    rw [e1, List.length_take, Nat.min_eq_left (by omega), pow64] at hlt
    rcases Nat.lt_or_ge (tl vs 4) n with h | h
    · have : 2 ^ (64 * tl vs 4) ≤ 2 ^ (64 * n - 1) := Nat.pow_le_pow_right (by decide) (by omega)
      omega
    · have hne := tl_top (ds := vs) (k := 4) (by omega)
      obtain ⟨g1, g2⟩ := lval_top hlv (n := tl vs 4) (by omega) (by omega)
      rw [e1] at g1
      have g3 : 18446744073709551616 ^ (tl vs 4 - 1) * 1 ≤ 18446744073709551616 ^ (tl vs 4 - 1) * vs.getD (tl vs 4 - 1) 0 := Nat.mul_le_mul_left _ (by omega)
      rw [pow64] at g3 g1
      have : 2 ^ (64 * n) ≤ 2 ^ (64 * (tl vs 4 - 1)) := Nat.pow_le_pow_right (by decide) (by omega)
      omega
end Go.Own

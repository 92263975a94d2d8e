/-
  Plain mathematics: one round of Algorithm D.
-/
import Derived.Test.YgcsalGreatPlainE
namespace Go.Own
/-- The trial digit, and the trial digit as the third limb corrects it. -/
def trial0 (high mid top : Nat) : Nat := min ((high * 18446744073709551616 + mid) / top) 18446744073709551615
def trialQ (high mid low top next : Nat) : Nat := min (((high * 18446744073709551616 + mid) * 18446744073709551616 + low) / (top * 18446744073709551616 + next)) 18446744073709551615

/-- The test of the third limb, in one number. -/
theorem tq_iff {q R T low top next : Nat} (h : q * top + R = T) : q * next ≤ R * 18446744073709551616 + low ↔ q * (top * 18446744073709551616 + next) ≤ T * 18446744073709551616 + low := by
  rw [Nat.mul_add, ← Nat.mul_assoc]
  generalize q * top = a at *
  generalize q * next = c at *
  omega
theorem tq_big {q R low next : Nat} (hq : q ≤ 18446744073709551615) (hn : next < 18446744073709551616) (hR : 18446744073709551616 ≤ R) : q * next ≤ R * 18446744073709551616 + low := by
  have : q * next ≤ 18446744073709551615 * 18446744073709551615 := Nat.mul_le_mul hq (by omega)
  omega
theorem tq_stop {q R T low top next : Nat} (h : q * top + R = T) (hq : q ≤ 18446744073709551615) (hp : 0 < top) (hc : q * next ≤ R * 18446744073709551616 + low) :
    q ≤ min ((T * 18446744073709551616 + low) / (top * 18446744073709551616 + next)) 18446744073709551615 := by
  refine Nat.le_min.2 ⟨?_, hq⟩
  rw [Nat.le_div_iff_mul_le (by omega)]
  exact (tq_iff h).1 hc
theorem tq_go {q R T low top next : Nat} (h : q * top + R = T) (hp : 0 < top) (hc : R * 18446744073709551616 + low < q * next) :
    min ((T * 18446744073709551616 + low) / (top * 18446744073709551616 + next)) 18446744073709551615 + 1 ≤ q := by
  have h1 : (T * 18446744073709551616 + low) / (top * 18446744073709551616 + next) < q := by
    rw [Nat.div_lt_iff_lt_mul (by omega)]
    have := (tq_iff (low := low) (next := next) h)
    exact Nat.lt_of_not_le fun h' => absurd (this.2 h') (Nat.not_le.2 hc)
  have h3 := Nat.min_le_left ((T * 18446744073709551616 + low) / (top * 18446744073709551616 + next)) 18446744073709551615
  omega
theorem tq_le {T low top next : Nat} (hp : 0 < top) (hm : low < 18446744073709551616) :
    min ((T * 18446744073709551616 + low) / (top * 18446744073709551616 + next)) 18446744073709551615 ≤ min (T / top) 18446744073709551615 := by
  refine Nat.le_min.2 ⟨?_, Nat.min_le_right _ _⟩
  refine Nat.le_trans (Nat.min_le_left _ _) ?_
  have h1 := Nat.div_le_div_left (a := T * 18446744073709551616 + low) (show 18446744073709551616 * top ≤ top * 18446744073709551616 + next by omega) (show 0 < 18446744073709551616 * top by omega)
  rw [← Nat.div_div_eq_div_mul, show (T * 18446744073709551616 + low) / 18446744073709551616 = T from by omega] at h1
  exact h1
theorem trialQ_le {high mid low top next : Nat} (hp : 0 < top) (hm : low < 18446744073709551616) : trialQ high mid low top next ≤ trial0 high mid top :=
  tq_le hp hm
/-- What is left behind the trial digit. -/
def trialR (high mid top : Nat) : Nat := high * 18446744073709551616 + mid - trial0 high mid top * top
theorem trialR_eq {high mid top : Nat} : trial0 high mid top * top + trialR high mid top = high * 18446744073709551616 + mid := by
  have h1 : trial0 high mid top * top ≤ high * 18446744073709551616 + mid :=
    Nat.le_trans (Nat.mul_le_mul_right _ (Nat.min_le_left _ _)) (Nat.div_mul_le_self _ _)
  unfold trialR; omega
theorem trial_fixes {high mid low top next : Nat} (ht : 9223372036854775808 ≤ top) (hn : next < 18446744073709551616) : trial0 high mid top ≤ trialQ high mid low top next + 2 := by
  rcases Nat.lt_or_ge (trial0 high mid top) 3 with h | h
  · omega
  · have e := trialR_eq (high := high) (mid := mid) (top := top)
    have hq : trial0 high mid top ≤ 18446744073709551615 := Nat.min_le_right _ _
    generalize trial0 high mid top = t at *
    generalize trialR high mid top = r at *
    have e2 : (t - 2) * top + (r + 2 * top) = high * 18446744073709551616 + mid := by
      have : t * top = (t - 2) * top + 2 * top := by rw [← Nat.add_mul]; congr 1; omega
      omega
    have := tq_stop (low := low) (next := next) e2 (by omega) (by omega) (tq_big (by omega) hn (by omega))
    have h2 : t - 2 ≤ trialQ high mid low top next := this
    omega
/-- Knuth: the corrected trial digit is the digit, or one above it. -/
theorem knuth {T V2 p ul vl U V : Nat} (hU : U = T * p + ul) (hul : ul < p) (hV : V = V2 * p + vl) (hvl : vl < p) (hV2 : 18446744073709551616 ≤ V2) (hlt : U < V * 18446744073709551616) :
    U / V ≤ min (T / V2) 18446744073709551615 ∧ min (T / V2) 18446744073709551615 ≤ U / V + 1 := by
  have hp : 0 < p := by omega
  have hVpos : 0 < V := by rw [hV]; exact Nat.add_pos_left (Nat.mul_pos (by omega) hp) _
  constructor
  · refine Nat.le_min.2 ⟨?_, ?_⟩
    · rw [Nat.le_div_iff_mul_le (by omega)]
      have h1 : U / V * V ≤ U := Nat.div_mul_le_self U V
      have h2 : U / V * (V2 * p) ≤ U := Nat.le_trans (Nat.mul_le_mul_left _ (by omega)) h1
      rw [← Nat.mul_assoc] at h2
      have h3 : U / V * V2 * p < (T + 1) * p := by rw [Nat.add_mul, Nat.one_mul]; omega
      have := Nat.lt_of_mul_lt_mul_right h3
      omega
    · have := (Nat.div_lt_iff_lt_mul hVpos).2 (show U < 18446744073709551616 * V by rw [Nat.mul_comm]; exact hlt)
      omega
  · have hq := Nat.min_le_left (T / V2) 18446744073709551615
    have hq' := Nat.min_le_right (T / V2) 18446744073709551615
    generalize min (T / V2) 18446744073709551615 = q at *
    rcases Nat.eq_zero_or_pos q with h0 | h0
    · rw [h0]; exact Nat.zero_le _
    · obtain ⟨k, rfl⟩ : ∃ k, q = k + 1 := ⟨q - 1, by omega⟩
      apply Nat.succ_le_succ
      rw [Nat.le_div_iff_mul_le hVpos]
      have h1 : (k + 1) * V2 ≤ T := (Nat.le_div_iff_mul_le (by omega)).1 hq
      have h2 : k * V ≤ k * ((V2 + 1) * p) := Nat.mul_le_mul_left _ (by rw [hV, Nat.add_mul, Nat.one_mul]; omega)
      have h3 : k * ((V2 + 1) * p) = (k * (V2 + 1)) * p := by rw [Nat.mul_assoc]
      have h4 : k * (V2 + 1) ≤ (k + 1) * V2 := by rw [Nat.mul_add, Nat.add_mul, Nat.mul_one, Nat.one_mul]; omega
      have h5 : (k * (V2 + 1)) * p ≤ T * p := Nat.mul_le_mul_right _ (Nat.le_trans h4 h1)
      omega
/-- takeTimes: one limb. -/
theorem tt_step {C QV D p q c r x u d lo hi b : Nat} (h : C + QV = D + p * (c + r)) (h1 : lo + 18446744073709551616 * hi = q * x + c) (h2 : d + lo + r = u + 18446744073709551616 * b) :
    (C + p * d) + (QV + p * (q * x)) = (D + p * u) + 18446744073709551616 * p * (hi + b) := by
  have h3 : p * (c + r) + p * (d + q * x) = p * (u + 18446744073709551616 * (hi + b)) := by rw [← Nat.mul_add]; congr 1; omega
  have h4 : p * (18446744073709551616 * (hi + b)) = 18446744073709551616 * p * (hi + b) := by rw [← Nat.mul_assoc, Nat.mul_comm p]
  rw [Nat.mul_add p d, Nat.mul_add p u, h4] at h3
  omega
theorem sub_step {u lo r : Nat} (hu : u < 18446744073709551616) (hlo : lo < 18446744073709551616) (hr : r ≤ 1) :
    (u + 18446744073709551616 - lo - r) % 18446744073709551616 + lo + r = u + 18446744073709551616 * (if u < lo + r then 1 else 0) := by
  split <;> omega
theorem ma_lt {x y s c : Nat} (hx : x < 18446744073709551616) (hy : y < 18446744073709551616) (hs : s < 18446744073709551616) (hc : c < 18446744073709551616) : (x * y + s + c) / 18446744073709551616 < 18446744073709551616 := by
  have : x * y ≤ 18446744073709551615 * 18446744073709551615 := Nat.mul_le_mul (by omega) (by omega)
  omega
end Go.Own

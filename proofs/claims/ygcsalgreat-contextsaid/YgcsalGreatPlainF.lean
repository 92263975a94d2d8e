/-
  Plain mathematics: two halves by one (math/bits.Div64's digits of 32 bits).
-/
import Derived.Test.YgcsalGreatPlainE
namespace Go.Own
theorem dg_stop {q r u d yn1 yn0 : Nat} (h : q * yn1 + r = u) (hc : q * yn0 ≤ 4294967296 * r + d) (hy : 0 < yn1 * 4294967296 + yn0) : q ≤ (u * 4294967296 + d) / (yn1 * 4294967296 + yn0) := by
  rw [Nat.le_div_iff_mul_le hy, Nat.mul_add, ← Nat.mul_assoc]
  generalize q * yn1 = a at *
  generalize q * yn0 = c at *
  omega
theorem dg_lt {u d y : Nat} (hu : u < y) (hd : d < 4294967296) : (u * 4294967296 + d) / y < 4294967296 := by
  rw [Nat.div_lt_iff_lt_mul (by omega), Nat.mul_comm]
  have : (u + 1) * 4294967296 ≤ y * 4294967296 := Nat.mul_le_mul_right _ hu
  omega
theorem dg_go {q r u d yn1 yn0 : Nat} (h : q * yn1 + r = u) (hu : u < yn1 * 4294967296 + yn0) (hd : d < 4294967296) (hc : 4294967296 ≤ q ∨ 4294967296 * r + d < q * yn0) :
    (u * 4294967296 + d) / (yn1 * 4294967296 + yn0) + 1 ≤ q := by
  rcases hc with hc | hc
  · have := dg_lt hu hd; omega
  · apply Nat.succ_le_of_lt
    rw [Nat.div_lt_iff_lt_mul (by omega), Nat.mul_add, ← Nat.mul_assoc]
    generalize q * yn1 = a at *
    generalize q * yn0 = c at *
    omega
theorem dg_break {q r u d yn1 yn0 : Nat} (h : q * yn1 + r = u) (hr : 4294967296 ≤ r) (hu : u < yn1 * 4294967296 + yn0) (h0 : yn0 < 4294967296) : q * yn0 ≤ 4294967296 * r + d := by
  have hq : q < 4294967296 := by
    rcases Nat.lt_or_ge q 4294967296 with h' | h'
    · exact h'
    · have : 4294967296 * yn1 ≤ q * yn1 := Nat.mul_le_mul_right _ h'
      omega
  have : q * yn0 ≤ 4294967295 * 4294967295 := Nat.mul_le_mul (by omega) (by omega)
  omega
theorem dg_qlt {q r u yn1 : Nat} (h : q * yn1 + r = u) (hu : u < 18446744073709551616) (h1 : 2147483648 ≤ yn1) : q < 8589934592 := by
  rcases Nat.lt_or_ge q 8589934592 with h' | h'
  · exact h'
  · have : 8589934592 * 2147483648 ≤ q * yn1 := Nat.mul_le_mul h' h1
    omega
/-- The two digits together. -/
theorem dg_fin {N U un1 un0 y s Y D R D0 R0 : Nat} (hN : N * 2 ^ s = (U * 4294967296 + un1) * 4294967296 + un0) (hy : 0 < y) (hYe : Y = y * 2 ^ s) (hD : D * Y + R = U * 4294967296 + un1)
    (hE : D0 * Y + R0 = R * 4294967296 + un0) (l0 : R0 < Y) : D * 4294967296 + D0 = N / y ∧ R0 / 2 ^ s = N % y := by
  have hp : 0 < 2 ^ s := Nat.pow_pos (by decide)
  have hY : 0 < Y := by rw [hYe]; exact Nat.mul_pos hy hp
  have hT : N * 2 ^ s = Y * (D * 4294967296 + D0) + R0 := by
    rw [hN, ← hD, Nat.mul_add, ← Nat.mul_assoc, Nat.mul_comm Y D, Nat.mul_comm Y D0]
    generalize D * Y = A at *
    generalize D0 * Y = C at *
    clear hN hYe hp hY l0 hy
    omega
  have hq : N * 2 ^ s / Y = D * 4294967296 + D0 := by
    rw [hT, Nat.mul_add_div hY, Nat.div_eq_of_lt l0, Nat.add_zero]
  have hr : N * 2 ^ s % Y = R0 := by
    rw [hT, Nat.mul_add_mod, Nat.mod_eq_of_lt l0]
  constructor
  · rw [← hq, hYe]; exact (Nat.mul_div_mul_right _ _ hp)
  · rw [← hr, hYe, Nat.mul_mod_mul_right, Nat.mul_div_cancel _ hp]
theorem split32 (U T : Nat) : U * 18446744073709551616 + T = (U * 4294967296 + T / 4294967296) * 4294967296 + T % 4294967296 := by omega
theorem div_mul_mod (t Y : Nat) : t / Y * Y + t % Y = t := by rw [Nat.mul_comm]; exact Nat.div_add_mod _ _
/-- Two wrapped products apart. -/
theorem wrap_rest {A d C R : Nat} (h : C + R = A + d) (hR : R < 18446744073709551616) : ((((A : Int) % 18446744073709551616 + d) % 18446744073709551616) - (C : Int) % 18446744073709551616) % 18446744073709551616 = R := by
  omega
theorem norm_parts {hi lo y s : Nat} (hs : s < 64) (h : hi < y) (hl : lo < 18446744073709551616) (hY : y * 2 ^ s < 18446744073709551616) :
    (hi * 18446744073709551616 + lo) * 2 ^ s = (hi * 2 ^ s + lo / 2 ^ (64 - s)) * 18446744073709551616 + lo * 2 ^ s % 18446744073709551616 ∧ hi * 2 ^ s + lo / 2 ^ (64 - s) < y * 2 ^ s ∧ hi * 2 ^ s < 18446744073709551616 := by
  have hp : 0 < 2 ^ s := Nat.pow_pos (by decide)
  have h1 : (hi + 1) * 2 ^ s ≤ y * 2 ^ s := Nat.mul_le_mul_right _ h
  have h2 := up_carry_lt (x := lo) hs hl
  rw [Nat.add_mul, Nat.one_mul] at h1
  refine ⟨?_, by omega, by omega⟩
  rw [up_carry hs, Nat.add_mul, Nat.mul_right_comm]
  generalize lo * 2 ^ s = z
  omega
end Go.Own

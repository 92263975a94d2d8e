/-
  Plain mathematics: limbs shifted up and down.
-/
import Derived.Test.YgcsalGreatPlainB
namespace Go.Own

theorem lval_set_take {l : List Nat} {k : Nat} (y : Nat) (h : k < l.length) : lval ((l.set k y).take (k + 1)) = lval (l.take k) + 18446744073709551616 ^ k * y := by
  rw [lval_take_succ (by simpa using h), List.getElem_set_self, List.take_set_of_le (Nat.le_refl k)]
theorem lval_drop {l : List Nat} {k : Nat} (h : k < l.length) : lval (l.drop k) = l[k] + 18446744073709551616 * lval (l.drop (k + 1)) := by
  rw [List.drop_eq_getElem_cons h]; rfl
theorem lval_set_drop {l : List Nat} {k : Nat} (y : Nat) (h : k < l.length) : lval ((l.set k y).drop k) = y + 18446744073709551616 * lval (l.drop (k + 1)) := by
  rw [lval_drop (by simpa using h), List.getElem_set_self, List.drop_set_of_lt (by omega)]
theorem pow64_succ (k : Nat) : 18446744073709551616 ^ (k + 1) = 18446744073709551616 * 18446744073709551616 ^ k := by rw [Nat.pow_succ, Nat.mul_comm]
theorem split64 {s : Nat} (h : s < 64) : 18446744073709551616 = 2 ^ (64 - s) * 2 ^ s := by rw [← Nat.pow_add, Nat.sub_add_cancel (by omega)]
theorem up_carry {x s : Nat} (h : s < 64) : x / 2 ^ (64 - s) = x * 2 ^ s / 18446744073709551616 := by
  rw [split64 h, Nat.mul_div_mul_right _ _ (Nat.pow_pos (by decide))]
theorem up_carry_lt {x s : Nat} (h : s < 64) (hx : x < 18446744073709551616) : x / 2 ^ (64 - s) < 2 ^ s :=
  Nat.div_lt_of_lt_mul (by rw [← split64 h]; exact hx)
theorem up_low {x s : Nat} (h : s < 64) : x * 2 ^ s % 18446744073709551616 % 2 ^ s = 0 := by
  rw [split64 h, Nat.mod_mul_left_mod, Nat.mul_mod_left]
theorem up_lt {x s c : Nat} (h : s < 64) (hc : c < 2 ^ s) : x * 2 ^ s % 18446744073709551616 + c < 18446744073709551616 := by
  have h1 : x * 2 ^ s % 18446744073709551616 = x % 2 ^ (64 - s) * 2 ^ s := by rw [split64 h, Nat.mul_mod_mul_right]
  have h2 : x % 2 ^ (64 - s) < 2 ^ (64 - s) := Nat.mod_lt _ (Nat.pow_pos (by decide))
  have h3 : (x % 2 ^ (64 - s) + 1) * 2 ^ s ≤ 2 ^ (64 - s) * 2 ^ s := Nat.mul_le_mul_right _ h2
  rw [Nat.add_mul, Nat.one_mul, ← h1, ← split64 h] at h3
  omega
theorem up_step {V V' W p c x s : Nat} (hs : s < 64) (h : V + p * c = W * 2 ^ s) (hv : V' = V + p * (x * 2 ^ s % 18446744073709551616 + c)) :
    V' + 18446744073709551616 * p * (x / 2 ^ (64 - s)) = (W + p * x) * 2 ^ s := by
  rw [up_carry hs, Nat.add_mul, ← h, hv, Nat.mul_add, Nat.mul_assoc p x]
  generalize x * 2 ^ s = z
  have h1 : p * (z % 18446744073709551616) + 18446744073709551616 * p * (z / 18446744073709551616) = p * z := by
    rw [Nat.mul_comm 18446744073709551616 p, Nat.mul_assoc, ← Nat.mul_add, Nat.add_comm, Nat.div_add_mod]
  omega
/-- One limb of the way down. -/
theorem down_step {H x s : Nat} (hs : s < 64) : x / 2 ^ s + H % 2 ^ s * 2 ^ (64 - s) + 18446744073709551616 * (H / 2 ^ s) = (x + 18446744073709551616 * H) / 2 ^ s := by
  have hp : 0 < 2 ^ s := Nat.pow_pos (by decide)
  have h1 : x + 18446744073709551616 * H = x + 2 ^ s * (2 ^ (64 - s) * H) := by rw [← Nat.mul_assoc, Nat.mul_comm (2 ^ s), ← split64 hs]
  rw [h1, Nat.add_mul_div_left _ _ hp]
  have h2 : 2 ^ (64 - s) * H = H % 2 ^ s * 2 ^ (64 - s) + 18446744073709551616 * (H / 2 ^ s) := by
    have := Nat.div_add_mod H (2 ^ s)
    rw [split64 hs, Nat.mul_assoc, Nat.mul_comm (H % 2 ^ s), ← Nat.mul_add, Nat.add_comm (H % 2 ^ s), this]
  omega
theorem down_mod {H x s : Nat} (hs : s < 64) : (x + 18446744073709551616 * H) % 2 ^ s = x % 2 ^ s := by
  have h1 : x + 18446744073709551616 * H = x + 2 ^ s * (2 ^ (64 - s) * H) := by rw [← Nat.mul_assoc, Nat.mul_comm (2 ^ s), ← split64 hs]
  rw [h1, Nat.add_mul_mod_self_left]
theorem down_carry {x s : Nat} (hs : s < 64) : x * 2 ^ (64 - s) % 18446744073709551616 = x % 2 ^ s * 2 ^ (64 - s) := by
  rw [split64 hs, Nat.mul_comm (2 ^ (64 - s)), Nat.mul_mod_mul_right]
theorem down_lt {x H s : Nat} (hs : s < 64) (hx : x < 18446744073709551616) : x / 2 ^ s < 2 ^ (64 - s) ∧ x / 2 ^ s + H % 2 ^ s * 2 ^ (64 - s) < 18446744073709551616 := by
  have h1 : x / 2 ^ s < 2 ^ (64 - s) := Nat.div_lt_of_lt_mul (by rw [Nat.mul_comm, ← split64 hs]; exact hx)
  have h2 : H % 2 ^ s < 2 ^ s := Nat.mod_lt _ (Nat.pow_pos (by decide))
  have h3 : (H % 2 ^ s + 1) * 2 ^ (64 - s) ≤ 2 ^ s * 2 ^ (64 - s) := Nat.mul_le_mul_right _ h2
  rw [Nat.add_mul, Nat.one_mul, Nat.mul_comm (2 ^ s), ← split64 hs] at h3
  exact ⟨h1, by omega⟩
end Go.Own

/-
  Plain mathematics: the schoolbook's steps.
-/
import Derived.Test.YgcsalGreatPlainB
namespace Go.Own

theorem val_set {l : List Nat} {k : Nat} (y : Nat) (h : k < l.length) : val (l.set k y) + 256 ^ k * l[k] = val l + 256 ^ k * y := by
  have e1 : l = l.take k ++ l[k] :: l.drop (k + 1) := by rw [← List.drop_eq_getElem_cons h, List.take_append_drop]
  have e2 : l.set k y = l.take k ++ y :: l.drop (k + 1) := by rw [List.set_eq_take_append_cons_drop, if_pos h]
  have hl : (l.take k).length = k := by simp; omega
  have v1 : val l = val (l.take k) + 256 ^ k * (l[k] + 256 * val (l.drop (k + 1))) := by
    have : val l = val (l.take k ++ l[k] :: l.drop (k + 1)) := by rw [← e1]
    rw [this, val_append, hl]; rfl
  rw [e2, val_append, hl, v1]
  simp only [val, Nat.mul_add]
  omega

/-- One digit of a row of the schoolbook product. -/
theorem mul_step {V V' W p c x y o : Nat} (h : V + p * c = W) (hs : V' + p * o = V + p * ((c + x * y + o) % 256)) : V' + 256 * p * ((c + x * y + o) / 256) = W + p * (x * y) := by
  have e : p * (c + x * y + o) = p * (256 * ((c + x * y + o) / 256) + (c + x * y + o) % 256) := by rw [Nat.div_add_mod]
  generalize (c + x * y + o) / 256 = q at *
  generalize (c + x * y + o) % 256 = r at *
  generalize x * y = z at *
  simp only [Nat.mul_add] at e
  have e2 : p * (256 * q) = 256 * p * q := by rw [← Nat.mul_assoc, Nat.mul_comm p 256]
  rw [e2] at e
  omega
/-- One digit of a sum. -/
theorem add_step {V V' W p c s : Nat} (h : V + p * c = W) (hs : V' = V + p * ((c + s) % 256)) : V' + 256 * p * ((c + s) / 256) = W + p * s := by
  have := mul_step (V := V) (V' := V') (W := W) (p := p) (c := c) (x := s) (y := 1) (o := 0) h (by simpa using hs)
  simpa using this
/-- One digit of a difference: what is taken, what is borrowed. -/
theorem take_step {V V' T A p r a b r' : Nat} (h : V + T = A + p * r) (hr : a + 256 * r' = (a + 256 * r' - (r + b)) + (r + b)) (hs : V' + p * a = V + p * (a + 256 * r' - (r + b))) : V' + (T + p * b) = A + 256 * p * r' := by
  generalize a + 256 * r' - (r + b) = n at *
  have e : p * (a + 256 * r') = p * (n + (r + b)) := by rw [hr]
  simp only [Nat.mul_add] at e
  have e2 : p * (256 * r') = 256 * p * r' := by rw [← Nat.mul_assoc, Nat.mul_comm p 256]
  rw [e2] at e
  omega
/-- One digit doubled. -/
theorem dbl_step {V V' W p c d : Nat} (h : V + p * c = W) (hs : V' + p * d = V + p * (2 * d % 256 + c)) : V' + 256 * p * (d / 128) = W + p * d := by
  have e : p * (2 * d) = p * (256 * (d / 128) + 2 * d % 256) := by
    congr 1
    omega
  simp only [Nat.mul_add] at e hs
  have e2 : p * (256 * (d / 128)) = 256 * p * (d / 128) := by rw [← Nat.mul_assoc, Nat.mul_comm p 256]
  have e3 : p * (2 * d) = p * d + p * d := by rw [Nat.two_mul, Nat.mul_add]
  rw [e2, e3] at e
  omega
theorem pow256_succ (k : Nat) : 256 ^ (k + 1) = 256 * 256 ^ k := by rw [Nat.pow_succ, Nat.mul_comm]
/-- The digit at place k of a number. -/
theorem digit_of_val {l : List Nat} (hs : Small l) {k : Nat} (h : k < l.length) : l[k] = val l / 256 ^ k % 256 := by
  have e : val l = val (l.take k) + 256 ^ k * val (l.drop k) := val_split (by omega)
  have h1 := val_lt (hs.take k)
  rw [List.length_take, Nat.min_eq_left (by omega)] at h1
  have hp : 0 < 256 ^ k := Nat.pow_pos (by decide)
  have h2 := hs.get h
  rw [e, Nat.add_mul_div_left _ _ hp, Nat.div_eq_of_lt h1, Nat.zero_add, List.drop_eq_getElem_cons h]
  simp only [val]
  omega
/-- Bit k of a number, out of its digits. -/
theorem bit_of_val {l : List Nat} (hs : Small l) {k : Nat} (h : k / 8 < l.length) : l[k / 8] / 2 ^ (k % 8) % 2 = val l / 2 ^ k % 2 := by
  rw [digit_of_val hs h]
  have e1 : 2 ^ k = 256 ^ (k / 8) * 2 ^ (k % 8) := by
    rw [show (256 : Nat) = 2 ^ 8 from rfl, ← Nat.pow_mul, ← Nat.pow_add]
    congr 1
    omega
  rw [e1, ← Nat.div_div_eq_div_mul]
  generalize val l / 256 ^ (k / 8) = z
  have hk : k % 8 < 8 := Nat.mod_lt _ (by decide)
  have key : z / 2 ^ (k % 8) = z % 256 / 2 ^ (k % 8) + 2 ^ (8 - k % 8) * (z / 256) := by
    have e2 : (256 : Nat) = 2 ^ (8 - k % 8) * 2 ^ (k % 8) := by rw [← Nat.pow_add, show 8 - k % 8 + k % 8 = 8 from by omega]
    have e3 : z = z % 256 + 2 ^ (k % 8) * (2 ^ (8 - k % 8) * (z / 256)) := by
      rw [← Nat.mul_assoc, Nat.mul_comm (2 ^ (k % 8)), ← e2]; omega
    have hp : 0 < 2 ^ (k % 8) := Nat.pow_pos (by decide)
    conv => lhs; rw [e3]
    rw [Nat.add_mul_div_left _ _ hp]
  rw [key]
  have e4 : 2 ^ (8 - k % 8) = 2 * 2 ^ (7 - k % 8) := by rw [← Nat.pow_succ', show (7 - k % 8).succ = 8 - k % 8 from by omega]
  rw [e4, Nat.mul_assoc]
  omega
theorem div_halves (a i : Nat) : a / 2 ^ i = 2 * (a / 2 ^ (i + 1)) + a / 2 ^ i % 2 := by
  rw [Nat.pow_succ, ← Nat.div_div_eq_div_mul]; omega
theorem quo_up {m B t : Nat} (hB : 0 < B) (ht : t ≤ 1) (h : B ≤ 2 * (m % B) + t) : (2 * m + t) / B = 2 * (m / B) + 1 ∧ (2 * m + t) % B = 2 * (m % B) + t - B := by
  have e : 2 * m + t = B * (2 * (m / B) + 1) + (2 * (m % B) + t - B) := by
    have h1 := Nat.div_add_mod m B
    have h2 : B * (2 * (m / B) + 1) = 2 * (B * (m / B)) + B := by rw [Nat.mul_add, Nat.mul_left_comm]; omega
    omega
  have hlt : 2 * (m % B) + t - B < B := by have := Nat.mod_lt m hB; omega
  constructor
  · rw [e, Nat.mul_add_div hB, Nat.div_eq_of_lt hlt]
  · rw [e, Nat.mul_add_mod, Nat.mod_eq_of_lt hlt]
theorem quo_keep {m B t : Nat} (hB : 0 < B) (h : 2 * (m % B) + t < B) : (2 * m + t) / B = 2 * (m / B) ∧ (2 * m + t) % B = 2 * (m % B) + t := by
  have e : 2 * m + t = B * (2 * (m / B)) + (2 * (m % B) + t) := by
    have h1 := Nat.div_add_mod m B
    have h2 : B * (2 * (m / B)) = 2 * (B * (m / B)) := by rw [Nat.mul_left_comm]
    omega
  constructor
  · rw [e, Nat.mul_add_div hB, Nat.div_eq_of_lt h]; omega
  · rw [e, Nat.mul_add_mod, Nat.mod_eq_of_lt h]
/-- The bits of a digit below what divides the number. -/
theorem digit_low {l : List Nat} (hs : Small l) {i z : Nat} (h : i / 8 < l.length) (hv : val l = z * 2 ^ (i + 1)) : l[i / 8] % 2 ^ (i % 8 + 1) = 0 := by
  rw [digit_of_val hs h, hv]
  have e1 : 2 ^ (i + 1) = 256 ^ (i / 8) * 2 ^ (i % 8 + 1) := by
    rw [show (256 : Nat) = 2 ^ 8 from rfl, ← Nat.pow_mul, ← Nat.pow_add]
    congr 1
    omega
  have hp : 0 < 256 ^ (i / 8) := Nat.pow_pos (by decide)
  rw [e1, Nat.mul_left_comm, Nat.mul_div_cancel_left _ hp]
  have e2 : (256 : Nat) = 2 ^ (i % 8 + 1) * 2 ^ (7 - i % 8) := by rw [← Nat.pow_add, show i % 8 + 1 + (7 - i % 8) = 8 from by omega]
  have hd : 2 ^ (i % 8 + 1) ∣ 256 := ⟨_, e2⟩
  rw [Nat.mod_mod_of_dvd _ hd]
  exact Nat.mul_mod_left _ _
theorem pow_split8 (i : Nat) : 256 ^ (i / 8) * 2 ^ (i % 8) = 2 ^ i := by
  rw [show (256 : Nat) = 2 ^ 8 from rfl, ← Nat.pow_mul, ← Nat.pow_add]
  congr 1
  omega
end Go.Own

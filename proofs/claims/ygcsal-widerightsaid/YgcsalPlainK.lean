/-
  Plain mathematics: digits laid into limbs; the shift that norms a divisor, by its least.
-/
import Derived.Test.YgcsalPlainJ
import Derived.Test.YgcsalNum
import Derived.Test.YgcsalNormShift
namespace Go.Own
theorem p256 (i : Nat) : 256 ^ i = 18446744073709551616 ^ (i / 8) * 2 ^ (8 * (i % 8)) := by
  rw [p64, ← Nat.pow_add, show (256 : Nat) = 2 ^ 8 from rfl, ← Nat.pow_mul]
  congr 1
  omega
theorem lval_get_le {l : List Nat} {j : Nat} (hj : j < l.length) : 18446744073709551616 ^ j * l[j] ≤ lval l := by
  have e1 := lval_split (xs := l) (k := j) (by omega)
  rw [lval_drop hj, Nat.mul_add] at e1
  omega
theorem lval_put {l : List Nat} {j q : Nat} (hj : j < l.length) : lval (l.set j (l[j] + q)) = lval l + 18446744073709551616 ^ j * q := by
  have e1 := lval_split (xs := l) (k := j) (by omega)
  have e2 := lval_split (xs := l.set j (l[j] + q)) (k := j) (by simp; omega)
  rw [List.take_set_of_le (by omega), lval_drop (by simpa using hj), List.getElem_set_self, List.drop_set_of_lt (by omega)] at e2
  rw [lval_drop hj] at e1
  rw [e1, e2, Nat.mul_add, Nat.mul_add, Nat.mul_add]
  omega
theorem lay {l : List Nat} {i d : Nat} (hj : i / 8 < l.length) (hv : lval l < 256 ^ i) (hd : d < 256) :
    (l[i / 8] ||| d * 2 ^ (8 * (i % 8))) = l[i / 8] + d * 2 ^ (8 * (i % 8)) ∧ l[i / 8] + d * 2 ^ (8 * (i % 8)) < 18446744073709551616 ∧ d * 2 ^ (8 * (i % 8)) < 18446744073709551616 ∧
    lval (l.set (i / 8) (l[i / 8] + d * 2 ^ (8 * (i % 8)))) = lval l + 256 ^ i * d := by
  have h1 : l[i / 8] < 2 ^ (8 * (i % 8)) := by
    have := lval_get_le hj
    rw [p256] at hv
    exact Nat.lt_of_mul_lt_mul_left (Nat.lt_of_le_of_lt this hv)
  have h2 : d * 2 ^ (8 * (i % 8)) + 2 ^ (8 * (i % 8)) ≤ 18446744073709551616 := by
    have h3 : (d + 1) * 2 ^ (8 * (i % 8)) ≤ 2 ^ 8 * 2 ^ (8 * (i % 8)) := Nat.mul_le_mul_right _ (by omega)
    have h4 : 2 ^ 8 * 2 ^ (8 * (i % 8)) ≤ 2 ^ 64 := by rw [← Nat.pow_add]; exact Nat.pow_le_pow_right (by decide) (by omega)
    rw [Nat.add_mul, Nat.one_mul] at h3
    exact Nat.le_trans h3 h4
  refine ⟨?_, by omega, by have := Nat.pow_pos (n := 8 * (i % 8)) (show 0 < 2 by decide); omega, ?_⟩
  · rw [Nat.or_comm, or_add (8 * (i % 8)) (Nat.mul_mod_left _ _) h1, Nat.add_comm]
  · rw [lval_put hj, p256, Nat.mul_assoc, Nat.mul_comm d]
/-- The limbs' count out of the digits'. -/
theorem nlb_digs {ds : List Nat} (hs : Small ds) (ht : Tight ds) : nlb (val ds) = (ds.length + 7) / 8 := by
  apply nlb_unique
  · rw [p64]
    refine Nat.lt_of_lt_of_le (val_lt hs) ?_
    rw [show (256 : Nat) = 2 ^ 8 from rfl, ← Nat.pow_mul]
    exact Nat.pow_le_pow_right (by decide) (by omega)
  · rcases Nat.eq_zero_or_pos ds.length with h | h
    · left; omega
    · right
      refine Nat.le_trans ?_ (ht.ge (by intro h'; rw [h'] at h; simp at h))
      rw [p64, show (256 : Nat) = 2 ^ 8 from rfl, ← Nat.pow_mul]
      exact Nat.pow_le_pow_right (by decide) (by omega)
theorem norm_least {V n s : Nat} (hn : nlb V = n) (hV : V ≠ 0) : V * 2 ^ s < 2 ^ (64 * n - 1) ↔ s < 64 * n - blen V := by
  have hbp := blen_pos hV
  have hb : blen V ≤ 64 * n := by rw [← hn]; unfold nlb; omega
  constructor
  · intro h
    rcases Nat.lt_or_ge s (64 * n - blen V) with h' | h'
    · exact h'
    · exfalso
      have h1 := Nat.mul_le_mul_right (2 ^ s) (blen_ge hV)
      rw [← Nat.pow_add] at h1
      have h2 := Nat.pow_le_pow_right (show 0 < 2 by decide) (show 64 * n - 1 ≤ blen V - 1 + s by omega)
      omega
  · intro h
    have h1 : V * 2 ^ s < 2 ^ blen V * 2 ^ s := Nat.mul_lt_mul_of_pos_right (blen_lt V) (Nat.pow_pos (by decide))
    rw [← Nat.pow_add] at h1
    exact Nat.lt_of_lt_of_le h1 (Nat.pow_le_pow_right (by decide) (by omega))
end Go.Own

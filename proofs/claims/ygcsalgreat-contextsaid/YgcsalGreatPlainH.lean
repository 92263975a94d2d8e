/-
  Plain mathematics: what a round of Algorithm D owes.
-/
import Derived.Test.YgcsalGreatPlainG
import Derived.Test.YgcsalGreatPlainC
namespace Go.Own
/-- The lowest k limbs of a number. -/
def nl : Nat → Nat → List Nat
  | 0, _ => []
  | k + 1, x => x % 18446744073709551616 :: nl k (x / 18446744073709551616)
theorem nl_length (k : Nat) : ∀ x, (nl k x).length = k := by
  induction k with
  | zero => intro x; rfl
  | succ k ih => intro x; simp [nl, ih]
theorem nl_limbs (k : Nat) : ∀ x, Limbs (nl k x) := by
  induction k with
  | zero => intro x y hy; simp [nl] at hy
  | succ k ih =>
    intro x y hy
    simp only [nl, List.mem_cons] at hy
    rcases hy with rfl | hy
    · exact Nat.mod_lt _ (by decide)
    · exact ih _ y hy
theorem nl_lval (k : Nat) : ∀ x, lval (nl k x) = x % 18446744073709551616 ^ k := by
  induction k with
  | zero => intro x; simp [nl, lval, Nat.mod_one]
  | succ k ih =>
    intro x
    rw [nl, lval, ih, pow64_succ, Nat.mod_mul]
theorem nl_of {l : List Nat} (h : Limbs l) : nl l.length (lval l) = l := by
  induction l with
  | nil => rfl
  | cons x l ih =>
    have hx := h x (by simp)
    simp only [List.length_cons, nl, lval]
    rw [show (x + 18446744073709551616 * lval l) % 18446744073709551616 = x from by omega, show (x + 18446744073709551616 * lval l) / 18446744073709551616 = lval l from by omega, ih (fun y hy => h y (by simp [hy]))]
theorem eq_nl {l : List Nat} {k v : Nat} (h : Limbs l) (hk : l.length = k) (hv : lval l = v) : l = nl k v := by
  subst hk; subst hv; exact (nl_of h).symm

theorem top2 {l : List Nat} {m a b : Nat} (hl : l.length = m + 2) (ha : l[m + 1]? = some a) (hb : l[m]? = some b) : lval l = (a * 18446744073709551616 + b) * 18446744073709551616 ^ m + lval (l.take m) := by
  have e : l.take (m + 1 + 1) = l := List.take_of_length_le (by omega)
  obtain ⟨h1, rfl⟩ := List.getElem?_eq_some_iff.1 ha
  obtain ⟨h2, rfl⟩ := List.getElem?_eq_some_iff.1 hb
  have e1 := lval_take_succ h1
  have e2 := lval_take_succ h2
  rw [e, e2, pow64_succ] at e1
  have e3 : ∀ a b p : Nat, (a * 18446744073709551616 + b) * p = 18446744073709551616 * p * a + p * b := fun a b p => by
    rw [Nat.add_mul, Nat.mul_comm b, Nat.mul_comm a, Nat.mul_right_comm]
  rw [e1, e3]
  omega
theorem top3 {l : List Nat} {m a b c : Nat} (hl : l.length = m + 3) (ha : l[m + 2]? = some a) (hb : l[m + 1]? = some b) (hc : l[m]? = some c) :
    lval l = ((a * 18446744073709551616 + b) * 18446744073709551616 + c) * 18446744073709551616 ^ m + lval (l.take m) := by
  have h1 := top2 (m := m + 1) (by omega) ha hb
  obtain ⟨h2, rfl⟩ := List.getElem?_eq_some_iff.1 hc
  have e3 : ∀ a c p : Nat, (a * 18446744073709551616 + c) * p = a * (18446744073709551616 * p) + p * c := fun a c p => by
    rw [Nat.add_mul, Nat.mul_comm c, Nat.mul_assoc]
  rw [h1, lval_take_succ h2, e3 _ l[m], pow64_succ]
  omega
/-- Knuth's bounds at the limbs. -/
theorem knuth_limbs {ds es : List Nat} {m high mid low top next : Nat} (hd : ds.length = m + 3) (he : es.length = m + 2) (hL : Limbs ds) (hLe : Limbs es) (h1 : ds[m + 2]? = some high) (h2 : ds[m + 1]? = some mid)
    (h3 : ds[m]? = some low) (h4 : es[m + 1]? = some top) (h5 : es[m]? = some next) (ht : 9223372036854775808 ≤ top) (hlt : lval ds < lval es * 18446744073709551616) :
    lval ds / lval es ≤ trialQ high mid low top next ∧ trialQ high mid low top next ≤ lval ds / lval es + 1 ∧ high ≤ top := by
  have e1 := top3 hd h1 h2 h3
  have e2 := top2 he h4 h5
  have l1 := lval_lt (hL.take m)
  have l2 := lval_lt (hLe.take m)
  rw [List.length_take, Nat.min_eq_left (by omega)] at l1 l2
  have hn : next < 18446744073709551616 := by obtain ⟨h, rfl⟩ := List.getElem?_eq_some_iff.1 h5; exact hLe.get h
  have k := knuth e1 l1 e2 l2 (by omega) hlt
  refine ⟨k.1, k.2, ?_⟩
  have hp : 0 < 18446744073709551616 ^ m := Nat.pow_pos (by decide)
  generalize 18446744073709551616 ^ m = p at *
  rcases Nat.lt_or_ge top high with h | h
  · exfalso
    have a1 : (top + 1) * 18446744073709551616 * 18446744073709551616 ≤ (high * 18446744073709551616 + mid) * 18446744073709551616 + low := by omega
    have a2 := Nat.mul_le_mul_right p a1
    have a3 : lval es < (top + 1) * 18446744073709551616 * p := by
      have : (top * 18446744073709551616 + next + 1) * p ≤ ((top + 1) * 18446744073709551616) * p := Nat.mul_le_mul_right _ (by omega)
      rw [Nat.add_mul _ 1, Nat.one_mul] at this
      omega
    have a4 : (top + 1) * 18446744073709551616 * 18446744073709551616 * p = (top + 1) * 18446744073709551616 * p * 18446744073709551616 := by rw [Nat.mul_right_comm]
    rw [a4] at a2
    omega
  · exact h
theorem quo_of {W V q D : Nat} (hV : 0 < V) (h1 : W / V ≤ q) (h : D + q * V = W) : q = W / V ∧ D = W % V := by
  have h2 : q ≤ W / V := (Nat.le_div_iff_mul_le hV).2 (by omega)
  have h3 : q = W / V := by omega
  refine ⟨h3, ?_⟩
  have := Nat.div_add_mod W V
  rw [Nat.mul_comm, ← h3] at this
  omega
theorem back_of {W V q D P : Nat} (hV : 0 < V) (hVP : V ≤ P) (h1 : W / V ≤ q) (h2 : q ≤ W / V + 1) (hD : D < P) (h : D + q * V = W + P) : q = W / V + 1 ∧ (D + V) % P = W % V ∧ W < q * V := by
  have hlt : W < q * V := by omega
  have h3 : W / V < q := (Nat.div_lt_iff_lt_mul hV).2 hlt
  have h4 : q = W / V + 1 := by omega
  refine ⟨h4, ?_, hlt⟩
  have := Nat.div_add_mod W V
  rw [Nat.mul_comm] at this
  have hm := Nat.mod_lt W hV
  rw [h4, Nat.add_mul, Nat.one_mul] at h
  have e : D + V = W % V + P := by omega
  rw [e, Nat.add_mod_right, Nat.mod_eq_of_lt (by omega)]
end Go.Own

/-
  Plain mathematics: limbs of 64 bits and digits of 8.
-/
import Derived.Test.YgcsalGreatPlain
namespace Go.Own

/-- The number that limbs make, the least first. -/
def lval : List Nat → Nat
  | [] => 0
  | x :: xs => x + 18446744073709551616 * lval xs
def Limbs (xs : List Nat) : Prop := ∀ x ∈ xs, x < 18446744073709551616
theorem Limbs.get {xs : List Nat} (h : Limbs xs) {k : Nat} (hk : k < xs.length) : xs[k] < 18446744073709551616 := h _ (List.getElem_mem hk)
theorem Limbs.take {xs : List Nat} (h : Limbs xs) (k : Nat) : Limbs (xs.take k) := fun x hx => h x (List.mem_of_mem_take hx)
theorem Limbs.drop {xs : List Nat} (h : Limbs xs) (k : Nat) : Limbs (xs.drop k) := fun x hx => h x (List.mem_of_mem_drop hx)
theorem Limbs.set {xs : List Nat} (h : Limbs xs) {i x : Nat} (hx : x < 18446744073709551616) : Limbs (xs.set i x) := fun y hy => by
  rcases List.mem_or_eq_of_mem_set hy with h1 | h1
  · exact h y h1
  · omega
theorem Limbs.append {a b : List Nat} (h : Limbs a) (h' : Limbs b) : Limbs (a ++ b) := fun x hx => by rcases List.mem_append.1 hx with h1 | h1; exact h x h1; exact h' x h1
theorem limbs_replicate (n : Nat) : Limbs (List.replicate n 0) := fun x hx => by simp at hx; omega
theorem lval_append (l m : List Nat) : lval (l ++ m) = lval l + 18446744073709551616 ^ l.length * lval m := by
  induction l with
  | nil => simp [lval]
  | cons d l ih => simp only [List.cons_append, lval, ih, List.length_cons, Nat.pow_succ]; rw [Nat.mul_add, Nat.mul_comm (18446744073709551616 ^ l.length) 18446744073709551616, Nat.mul_assoc]; omega
theorem lval_lt {xs : List Nat} (h : Limbs xs) : lval xs < 18446744073709551616 ^ xs.length := by
  induction xs with
  | nil => simp [lval]
  | cons d ds ih =>
    have h1 := h d (by simp)
    have h2 := ih (fun x hx => h x (by simp [hx]))
    simp only [lval, List.length_cons, Nat.pow_succ]
    omega
theorem lval_replicate (n : Nat) : lval (List.replicate n 0) = 0 := by
  induction n with
  | zero => rfl
  | succ n ih => simp [List.replicate_succ, lval, ih]
theorem lval_split {xs : List Nat} {k : Nat} (h : k ≤ xs.length) : lval xs = lval (xs.take k) + 18446744073709551616 ^ k * lval (xs.drop k) := by
  have := lval_append (xs.take k) (xs.drop k)
  rw [List.take_append_drop, List.length_take, Nat.min_eq_left h] at this
  exact this
theorem lval_take_succ {l : List Nat} {k : Nat} (h : k < l.length) : lval (l.take (k + 1)) = lval (l.take k) + 18446744073709551616 ^ k * l[k] := by
  rw [List.take_succ_eq_append_getElem h, lval_append, List.length_take, Nat.min_eq_left (by omega)]
  simp [lval]

/-- Digit i of limbs. -/
def ldig (xs : List Nat) (i : Nat) : Nat := xs.getD (i / 8) 0 / 2 ^ (8 * (i % 8)) % 256
def ldigs (xs : List Nat) (n : Nat) : List Nat := (List.range n).map (ldig xs)
theorem ldigs_length (xs : List Nat) (n : Nat) : (ldigs xs n).length = n := by simp [ldigs]
theorem ldigs_succ (xs : List Nat) (n : Nat) : ldigs xs (n + 1) = ldigs xs n ++ [ldig xs n] := by simp [ldigs, List.range_succ]
theorem ldigs_small (xs : List Nat) (n : Nat) : Small (ldigs xs n) := by
  intro x hx
  simp only [ldigs, List.mem_map] at hx
  obtain ⟨i, _, rfl⟩ := hx
  exact Nat.mod_lt _ (by decide)

theorem ldigs_val_aux (xs : List Nat) (k : Nat) (hk : k < xs.length) : ∀ j, j ≤ 8 → val (ldigs xs (8 * k + j)) = val (ldigs xs (8 * k)) + 256 ^ (8 * k) * (xs[k] % 256 ^ j) := by
  intro j
  induction j with
  | zero => intro _; simp [Nat.mod_one]
  | succ j ih =>
    intro hj
    rw [show 8 * k + (j + 1) = 8 * k + j + 1 from by omega, ldigs_succ, val_snoc, ldigs_length, ih (by omega)]
    have hd : ldig xs (8 * k + j) = xs[k] / 256 ^ j % 256 := by
      unfold ldig
      rw [show (8 * k + j) / 8 = k from by omega, show (8 * k + j) % 8 = j from by omega]
      rw [show xs.getD k 0 = xs[k] from by simp [List.getD_eq_getElem?_getD, hk]]
      rw [Nat.pow_mul]
    rw [hd, Nat.pow_add, Nat.mul_assoc, Nat.add_assoc, ← Nat.mul_add]
    congr 2
    rw [Nat.pow_succ, Nat.mod_mul]

theorem ldigs_val (xs : List Nat) (h : Limbs xs) : ∀ k, k ≤ xs.length → val (ldigs xs (8 * k)) = lval (xs.take k) := by
  intro k
  induction k with
  | zero => intro _; simp [ldigs, val, lval]
  | succ k ih =>
    intro hk
    rw [show 8 * (k + 1) = 8 * k + 8 from by omega, ldigs_val_aux xs k (by omega) 8 (Nat.le_refl _), ih (by omega), lval_take_succ (by omega)]
    have h1 := h.get (k := k) (by omega)
    rw [show (256 : Nat) ^ 8 = 18446744073709551616 from by decide, Nat.mod_eq_of_lt h1, Nat.pow_mul]
theorem ldigs_val_all (xs : List Nat) (h : Limbs xs) : val (ldigs xs (8 * xs.length)) = lval xs := by
  rw [ldigs_val xs h _ (Nat.le_refl _), List.take_length]

/-- 72 bytes as nine limbs: the loop of limbsOf. -/
def lo9 (bs : List Nat) : Nat → List Nat
  | 0 => List.replicate 9 0
  | i + 1 => (lo9 bs i).set (8 - i / 8) ((lo9 bs i).getD (8 - i / 8) 0 * 256 % 18446744073709551616 + bs.getD i 0)
theorem lo9_length (bs : List Nat) (i : Nat) : (lo9 bs i).length = 9 := by
  induction i with
  | zero => simp [lo9]
  | succ i ih => simp [lo9, ih]
theorem lo9_limbs (bs : List Nat) (h : Small bs) (i : Nat) : Limbs (lo9 bs i) := by
  induction i with
  | zero => exact limbs_replicate 9
  | succ i ih =>
    refine ih.set ?_
    have : bs.getD i 0 < 256 := by
      rw [List.getD_eq_getElem?_getD]
      cases hb : bs[i]? with
      | none => simp
      | some x => simpa using h x (List.mem_of_getElem? hb)
    omega
end Go.Own

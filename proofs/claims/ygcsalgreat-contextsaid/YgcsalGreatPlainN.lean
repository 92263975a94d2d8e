/-
  Plain laws of shifts by limbs, of the sign's spread, of powers, of single bytes.
-/
import Derived.Test.YgcsalGreatAlu4
namespace Go.Own

def expN (X Y : Nat) : Nat := X ^ Y % 18446744073709551616 ^ 4
def byteN (I X : Nat) : Nat := if I < 32 then X / 2 ^ (8 * (31 - I)) % 256 else 0
def sextN (K X : Nat) : Nat := if K < 31 then (if X / 2 ^ (8 * K + 7) % 2 = 1 then X % 2 ^ (8 * K + 8) + (18446744073709551616 ^ 4 - 2 ^ (8 * K + 8)) else X % 2 ^ (8 * K + 8)) else X
def shlN (S X : Nat) : Nat := X * 2 ^ (min S 256)
def shrN (S X : Nat) : Nat := X / 2 ^ (min S 256)
def sarN (S X : Nat) : Nat := if neg X then 18446744073709551616 ^ 4 - 1 - (18446744073709551616 ^ 4 - 1 - X) / 2 ^ (min S 256) else X / 2 ^ (min S 256)

theorem exp_sq (P A e M : Nat) : (P * (A * A % M) ^ e) % M = (P * A ^ (2 * e)) % M := by
  rw [Nat.mul_mod, ← Nat.pow_mod, ← Nat.mul_mod, Nat.pow_mul, Nat.pow_two]
theorem exp_step0 {P A e e' M R : Nat} (h : (P * A ^ e) % M = R) (he : e = 2 * e') : (P * (A * A % M) ^ e') % M = R := by
  rw [exp_sq, ← he, h]
theorem exp_step1 {P A e e' M R : Nat} (h : (P * A ^ e) % M = R) (he : e = 2 * e' + 1) : ((P * A % M) * (A * A % M) ^ e') % M = R := by
  rw [exp_sq, ← h, he, Nat.pow_succ, Nat.mod_mul_mod, Nat.mul_assoc P A, Nat.mul_comm A]
theorem pow_step {X e e' b M p : Nat} (h : p = X ^ e % M) (he : e' = 2 * e + b) : (p * p % M) * X ^ b % M = X ^ e' % M := by
  rw [h, he, Nat.pow_add, Nat.mod_mul_mod, Nat.mul_mod, ← Nat.mul_mod (X ^ e) (X ^ e) M, ← Nat.mul_mod, Nat.mul_comm 2 e, Nat.pow_mul, Nat.pow_two]

def sdl (r H : Nat) : List Nat → List Nat
  | [] => []
  | x :: l => (x / 2 ^ r + (lval l + 18446744073709551616 ^ l.length * H) % 2 ^ r * 2 ^ (64 - r)) :: sdl r H l
theorem sdl_length (r H : Nat) : ∀ l, (sdl r H l).length = l.length
  | [] => rfl
  | x :: l => by simp [sdl, sdl_length r H l]
theorem cons_above (x : Nat) (l : List Nat) (H : Nat) : lval (x :: l) + 18446744073709551616 ^ (x :: l).length * H = x + 18446744073709551616 * (lval l + 18446744073709551616 ^ l.length * H) := by
  simp only [lval, List.length_cons, pow64_succ, Nat.mul_assoc, Nat.mul_add, Nat.add_assoc]
theorem sdl_lval {r : Nat} (hr : r < 64) (H : Nat) : ∀ l, lval (sdl r H l) + 18446744073709551616 ^ l.length * (H / 2 ^ r) = (lval l + 18446744073709551616 ^ l.length * H) / 2 ^ r
  | [] => by simp [sdl, lval]
  | x :: l => by
    have ih := sdl_lval hr H l
    rw [cons_above, ← down_step hr, ← ih]
    simp only [sdl, lval, List.length_cons, pow64_succ, Nat.mul_assoc, Nat.mul_add, Nat.add_assoc]
theorem sdl_limbs {r : Nat} (hr : r < 64) (H : Nat) : ∀ l, Limbs l → Limbs (sdl r H l)
  | [], _ => by intro x hx; simp [sdl] at hx
  | x :: l, h => by
    intro y hy
    simp only [sdl, List.mem_cons] at hy
    rcases hy with rfl | hy
    · exact (down_lt hr (h x (by simp))).2
    · exact sdl_limbs hr H l (fun z hz => h z (by simp [hz])) y hy
theorem sdl_nl {r H k : Nat} (hr : r < 64) {l : List Nat} (hl : Limbs l) (hk : l.length = k) : sdl r H l = nl k ((lval l + 18446744073709551616 ^ k * H) / 2 ^ r) := by
  subst hk
  refine nl_of_mod (sdl_limbs hr H l hl) (sdl_length r H l) ?_
  rw [← sdl_lval hr, Nat.add_mul_mod_self_left, Nat.mod_eq_of_lt]
  have := lval_lt (sdl_limbs hr H l hl)
  rwa [sdl_length] at this
theorem sdl_cons2 {r : Nat} (hr : r < 64) (H x y : Nat) (l : List Nat) : sdl r H (x :: y :: l) = (x / 2 ^ r + y % 2 ^ r * 2 ^ (64 - r)) :: sdl r H (y :: l) := by
  rw [sdl, cons_above, down_mod hr]
theorem sdl_one {r : Nat} (hr : r < 64) (x f : Nat) (l : List Nat) : sdl r (lval (f :: l)) [x] = [x / 2 ^ r + f % 2 ^ r * 2 ^ (64 - r)] := by
  have e : lval [] + 18446744073709551616 ^ ([] : List Nat).length * lval (f :: l) = f + 18446744073709551616 * lval l := by simp [lval]
  rw [sdl, e, down_mod hr, sdl]

def lb (xs : List Nat) (f i : Nat) : Nat := if i < 4 then xs.getD i 0 else f
/-- Limb i of xs shifted down by r; the limbs above read as f. -/
def dnl (xs : List Nat) (f r i : Nat) : Nat := lb xs f i / 2 ^ r + lb xs f (i + 1) % 2 ^ r * 2 ^ (64 - r)
def dst (xs : List Nat) (f q r n : Nat) : List Nat := (List.range n).map (fun j => dnl xs f r (q + j)) ++ List.replicate (4 - n) f

theorem f_keep {f r : Nat} (hr : r < 64) (hf : f = 0 ∨ f = 18446744073709551615) : f / 2 ^ r + f % 2 ^ r * 2 ^ (64 - r) = f := by
  rcases hf with rfl | rfl
  · simp
  · have h2 := split64 hr
    have hp : 0 < 2 ^ r := Nat.pow_pos (by decide)
    have hq : 0 < 2 ^ (64 - r) := Nat.pow_pos (by decide)
    generalize 2 ^ r = p at *
    generalize 2 ^ (64 - r) = q at *
    have e3 : (q - 1) * p = q * p - p := Nat.sub_one_mul _ _
    have e4 : p ≤ q * p := Nat.le_mul_of_pos_left _ hq
    have e5 : q ≤ q * p := Nat.le_mul_of_pos_right _ hp
    have e1 : 18446744073709551615 / p = q - 1 := by
      have : 18446744073709551615 = p * (q - 1) + (p - 1) := by rw [Nat.mul_comm, e3]; omega
      rw [this, Nat.mul_add_div hp, Nat.div_eq_of_lt (by omega), Nat.add_zero]
    have e2 : 18446744073709551615 % p = p - 1 := by
      have : 18446744073709551615 = p * (q - 1) + (p - 1) := by rw [Nat.mul_comm, e3]; omega
      rw [this, Nat.mul_add_mod, Nat.mod_eq_of_lt (by omega)]
    rw [e1, e2, Nat.sub_one_mul, Nat.mul_comm p q]
    omega
theorem dn_all {xs : List Nat} {f q r : Nat} (hx : xs.length = 4) (hL : Limbs xs) (hq : q < 4) (hr : r < 64) (hf : f = 0 ∨ f = 18446744073709551615) :
    dst xs f q r (4 - q) = nl 4 ((lval xs + 18446744073709551616 ^ 4 * lval [f, f, f, f]) / 2 ^ (64 * q + r)) := by
  obtain ⟨a, b, c, d, rfl⟩ := four hx
  have hfl : f < 18446744073709551616 := by omega
  have ha := hL a (by simp)
  have hb := hL b (by simp)
  have hc := hL c (by simp)
  have hd := hL d (by simp)
  have hk := f_keep hr hf
  have main : ∀ (pre l : List Nat) (H : Nat), Limbs pre → Limbs l → l.length = 4 → pre.length = q → lval [a, b, c, d] + 18446744073709551616 ^ 4 * lval [f, f, f, f] = lval pre + 18446744073709551616 ^ q * (lval l + 18446744073709551616 ^ 4 * H) →
      nl 4 ((lval [a, b, c, d] + 18446744073709551616 ^ 4 * lval [f, f, f, f]) / 2 ^ (64 * q + r)) = sdl r H l := by
    intro pre l H hp hl hk hq' e
    have := lval_lt hp
    rw [hq'] at this
    rw [sdl_nl hr hl hk, e, Nat.pow_add, ← p64, ← Nat.div_div_eq_div_mul, Nat.add_mul_div_left _ _ (Nat.pow_pos (by decide)), Nat.div_eq_of_lt this, Nat.zero_add]
  rcases (by omega : q = 0 ∨ q = 1 ∨ q = 2 ∨ q = 3) with rfl | rfl | rfl | rfl
  · rw [main [] [a, b, c, d] (lval [f, f, f, f]) (by simp [Limbs]) hL rfl rfl (by simp [lval])]
    rw [sdl_cons2 hr, sdl_cons2 hr, sdl_cons2 hr, sdl_one hr]
    rfl
  · rw [main [a] [b, c, d, f] (lval [f, f, f]) (by simp [Limbs, ha]) (by simp [Limbs, hb, hc, hd, hfl]) rfl rfl (by simp only [lval]; omega)]
    rw [sdl_cons2 hr, sdl_cons2 hr, sdl_cons2 hr, sdl_one hr, hk]
    rfl
  · rw [main [a, b] [c, d, f, f] (lval [f, f]) (by simp [Limbs, ha, hb]) (by simp [Limbs, hc, hd, hfl]) rfl rfl (by simp only [lval]; omega)]
    rw [sdl_cons2 hr, sdl_cons2 hr, sdl_cons2 hr, sdl_one hr, hk]
    rfl
  · rw [main [a, b, c] [d, f, f, f] (lval [f]) (by simp [Limbs, ha, hb, hc]) (by simp [Limbs, hd, hfl]) rfl rfl (by simp only [lval]; omega)]
    rw [sdl_cons2 hr, sdl_cons2 hr, sdl_cons2 hr, sdl_one hr, hk]
    rfl

def sul (r : Nat) : Nat → List Nat → List Nat
  | _, [] => []
  | c, x :: l => (x * 2 ^ r % 18446744073709551616 + c) :: sul r (x / 2 ^ (64 - r)) l
theorem sul_length (r : Nat) : ∀ l c, (sul r c l).length = l.length
  | [], _ => rfl
  | x :: l, c => by simp [sul, sul_length r l]
theorem sul_lval {r : Nat} (hr : r < 64) : ∀ l c, ∃ k, lval (sul r c l) + 18446744073709551616 ^ l.length * k = lval l * 2 ^ r + c
  | [], c => ⟨c, by simp [sul, lval]⟩
  | x :: l, c => by
    obtain ⟨k, ih⟩ := sul_lval hr l (x / 2 ^ (64 - r))
    refine ⟨k, ?_⟩
    have e := Nat.div_add_mod (x * 2 ^ r) 18446744073709551616
    rw [← up_carry hr] at e
    simp only [sul, lval, List.length_cons, pow64_succ, Nat.mul_assoc, Nat.add_mul]
    generalize lval (sul r (x / 2 ^ (64 - r)) l) = S at *
    generalize 18446744073709551616 ^ l.length * k = T at *
    generalize lval l * 2 ^ r = U at *
    omega
theorem sul_limbs {r : Nat} (hr : r < 64) : ∀ l c, Limbs l → c < 2 ^ r → Limbs (sul r c l)
  | [], _, _, _ => by intro x hx; simp [sul] at hx
  | x :: l, c, h, hc => by
    intro y hy
    simp only [sul, List.mem_cons] at hy
    rcases hy with rfl | hy
    · exact up_lt hr hc
    · exact sul_limbs hr l _ (fun z hz => h z (by simp [hz])) (up_carry_lt hr (h x (by simp))) y hy
theorem up_all {xs : List Nat} {q r : Nat} (hx : xs.length = 4) (hL : Limbs xs) (hq : q < 4) (hr : r < 64) : List.replicate q 0 ++ sul r 0 (xs.take (4 - q)) = nl 4 (lval xs * 2 ^ (64 * q + r)) := by
  have hS := sul_limbs hr (xs.take (4 - q)) 0 (hL.take _) (Nat.pow_pos (by decide))
  obtain ⟨k, hk⟩ := sul_lval hr (xs.take (4 - q)) 0
  have hl : (xs.take (4 - q)).length = 4 - q := by simp [hx]
  have hsl := lval_lt hS
  rw [sul_length, hl] at hsl
  rw [hl, Nat.add_zero] at hk
  refine nl_of_mod ((limbs_replicate q).append hS) (by simp [sul_length, hl]; omega) ?_
  rw [lval_append, lval_replicate, Nat.zero_add, List.length_replicate, lval_split (k := 4 - q) (xs := xs) (by omega), Nat.pow_add, ← p64]
  have e4 : (18446744073709551616 : Nat) ^ 4 = 18446744073709551616 ^ q * 18446744073709551616 ^ (4 - q) := by rw [← Nat.pow_add]; congr 1; omega
  have e : (lval (xs.take (4 - q)) + 18446744073709551616 ^ (4 - q) * lval (xs.drop (4 - q))) * (18446744073709551616 ^ q * 2 ^ r) = 18446744073709551616 ^ q * (lval (sul r 0 (xs.take (4 - q))) + 18446744073709551616 ^ (4 - q) * (k + lval (xs.drop (4 - q)) * 2 ^ r)) := by
    rw [Nat.mul_left_comm, Nat.mul_comm (_ + _) (2 ^ r), Nat.mul_comm (2 ^ r), Nat.add_mul, ← hk]
    congr 1
    simp only [Nat.mul_add, Nat.mul_assoc, Nat.add_assoc]
  rw [e, e4, Nat.mul_mod_mul_left, Nat.add_mul_mod_self_left, Nat.mod_eq_of_lt hsl]

theorem limb_split {xs : List Nat} (hL : Limbs xs) {j : Nat} (hj : j < xs.length) : lval xs / 18446744073709551616 ^ j = xs[j] + 18446744073709551616 * lval (xs.drop (j + 1)) := by
  have h1 := lval_lt (hL.take j)
  rw [List.length_take, Nat.min_eq_left (by omega)] at h1
  rw [lval_split (k := j) (xs := xs) (by omega), Nat.add_mul_div_left _ _ (Nat.pow_pos (by decide)), Nat.div_eq_of_lt h1, Nat.zero_add, lval_drop hj]
theorem div_big {x H u : Nat} (hu : u ≤ 64) : (x + 18446744073709551616 * H) / 2 ^ u = x / 2 ^ u + 2 ^ (64 - u) * H := by
  have e : 18446744073709551616 = 2 ^ u * 2 ^ (64 - u) := by rw [← Nat.pow_add, show u + (64 - u) = 64 by omega]
  rw [e, Nat.mul_assoc, Nat.add_mul_div_left _ _ (Nat.pow_pos (by decide))]
theorem lval_bit {xs : List Nat} (hL : Limbs xs) {k : Nat} (hk : k / 64 < xs.length) : lval xs / 2 ^ k % 2 = xs[k / 64] / 2 ^ (k % 64) % 2 := by
  have e : 2 ^ k = 18446744073709551616 ^ (k / 64) * 2 ^ (k % 64) := by rw [p64, ← Nat.pow_add]; congr 1; omega
  rw [e, ← Nat.div_div_eq_div_mul, limb_split hL hk, div_big (by omega), show 64 - k % 64 = (63 - k % 64) + 1 by omega, Nat.pow_succ, Nat.mul_comm (2 ^ _) 2, Nat.mul_assoc, Nat.add_mul_mod_self_left]
theorem lval_byte {xs : List Nat} (hL : Limbs xs) (hx : xs.length = 4) {i : Nat} (hi : i < 32) : xs.getD (3 - i / 8) 0 / 2 ^ (56 - 8 * (i % 8)) % 256 = byteN i (lval xs) := by
  have hj : 3 - i / 8 < xs.length := by omega
  have e : 2 ^ (8 * (31 - i)) = 18446744073709551616 ^ (3 - i / 8) * 2 ^ (56 - 8 * (i % 8)) := by rw [p64, ← Nat.pow_add]; congr 1; omega
  rw [byteN, if_pos hi, e, ← Nat.div_div_eq_div_mul, limb_split hL hj, div_big (by omega), show 64 - (56 - 8 * (i % 8)) = 8 * (i % 8) + 8 by omega, Nat.pow_add, Nat.mul_comm (2 ^ (8 * (i % 8))), Nat.mul_assoc,
    show (2 : Nat) ^ 8 = 256 from rfl, Nat.add_mul_mod_self_left, List.getD_eq_getElem?_getD, List.getElem?_eq_getElem hj]
  rfl

/-- The limb at the sign's place. -/
def sxl (t x : Nat) : Nat := if 2 ^ (t - 1) ≤ x % 2 ^ t then x % 2 ^ t + 18446744073709551616 - 2 ^ t else x % 2 ^ t
def sxf (t x : Nat) : Nat := if 2 ^ (t - 1) ≤ x % 2 ^ t then 18446744073709551615 else 0
theorem mod_big {x H t : Nat} (ht : t ≤ 64) : (x + 18446744073709551616 * H) % 2 ^ t = x % 2 ^ t := by
  have e : 18446744073709551616 = 2 ^ t * 2 ^ (64 - t) := by rw [← Nat.pow_add, show t + (64 - t) = 64 by omega]
  rw [e, Nat.mul_assoc, Nat.add_mul_mod_self_left]
theorem sext_all {xs : List Nat} (hL : Limbs xs) (hx : xs.length = 4) {k j t : Nat} (hk : k < 31) (hj : j = (8 * k + 7) / 64) (ht : t = (8 * k + 7) % 64 + 1) :
    xs.take j ++ sxl t (xs.getD j 0) :: List.replicate (3 - j) (sxf t (xs.getD j 0)) = nl 4 (sextN k (lval xs)) := by
  have hj4 : j < 4 := by omega
  have hjl : j < xs.length := by omega
  have hp : 2 ^ (8 * k + 8) = 18446744073709551616 ^ j * 2 ^ t := by rw [p64, ← Nat.pow_add]; congr 1; omega
  have hp7 : 2 ^ (8 * k + 7) = 18446744073709551616 ^ j * 2 ^ (t - 1) := by rw [p64, ← Nat.pow_add]; congr 1; omega
  have hg : xs.getD j 0 = xs[j] := by rw [List.getD_eq_getElem?_getD, List.getElem?_eq_getElem hjl]; rfl
  have hs := limb_split hL hjl
  have hlow : lval xs % 2 ^ (8 * k + 8) = lval (xs.take j) + 18446744073709551616 ^ j * (xs[j] % 2 ^ t) := by
    have h1 := lval_lt (hL.take j)
    rw [List.length_take, Nat.min_eq_left (by omega)] at h1
    rw [hp, Nat.mod_mul, hs, mod_big (by omega)]
    congr 1
    rw [lval_split (k := j) (xs := xs) (by omega), Nat.add_mul_mod_self_left, Nat.mod_eq_of_lt h1]
  have ht2 : 2 ^ t = 2 ^ (t - 1) * 2 := by rw [← Nat.pow_succ]; congr 1; omega
  have hbit : lval xs / 2 ^ (8 * k + 7) % 2 = 1 ↔ 2 ^ (t - 1) ≤ xs[j] % 2 ^ t := by
    rw [hp7, ← Nat.div_div_eq_div_mul, hs, div_big (by omega), show 64 - (t - 1) = (64 - t) + 1 by omega, Nat.pow_succ, Nat.mul_comm (2 ^ _) 2, Nat.mul_assoc, Nat.add_mul_mod_self_left, ht2, Nat.mod_mul]
    have hm := Nat.mod_lt xs[j] (show 0 < 2 ^ (t - 1) from Nat.pow_pos (by decide))
    rcases Nat.mod_two_eq_zero_or_one (xs[j] / 2 ^ (t - 1)) with h | h <;> rw [h] <;> omega
  have htl : 2 ^ t ≤ 18446744073709551616 := by
    have : 2 ^ t ≤ 2 ^ 64 := Nat.pow_le_pow_right (by decide) (by omega)
    omega
  have hml : xs[j] % 2 ^ t < 2 ^ t := Nat.mod_lt _ (Nat.pow_pos (by decide))
  rw [hg]
  refine nl_of_mod ?_ (by simp; omega) ?_
  · refine (hL.take j).append ?_
    intro y hy
    simp only [List.mem_cons, List.mem_replicate] at hy
    rcases hy with rfl | ⟨_, rfl⟩
    · unfold sxl; split <;> omega
    · unfold sxf; split <;> omega
  · have hl1 := lval_lt (hL.take j)
    rw [List.length_take, Nat.min_eq_left (by omega)] at hl1
    have hu : sextN k (lval xs) = if 2 ^ (t - 1) ≤ xs[j] % 2 ^ t then lval (xs.take j) + 18446744073709551616 ^ j * (xs[j] % 2 ^ t) + (18446744073709551616 ^ 4 - 18446744073709551616 ^ j * 2 ^ t) else lval (xs.take j) + 18446744073709551616 ^ j * (xs[j] % 2 ^ t) := by
      unfold sextN
      rw [if_pos hk, hlow, hp]
      by_cases h : 2 ^ (t - 1) ≤ xs[j] % 2 ^ t
      · rw [if_pos h, if_pos (hbit.2 h)]
      · rw [if_neg h, if_neg (fun h' => h (hbit.1 h'))]
    rw [hu, lval_append, List.length_take, Nat.min_eq_left (by omega)]
    unfold sxl sxf
    clear hu hbit hlow hs hp7 hp hg ht2
    generalize lval (xs.take j) = T at *
    generalize xs[j] % 2 ^ t = y at *
    generalize 2 ^ t = P at *
    rcases (by omega : j = 0 ∨ j = 1 ∨ j = 2 ∨ j = 3) with rfl | rfl | rfl | rfl
    all_goals
      split
      all_goals
        simp only [lval, List.replicate, Nat.sub_zero, Nat.reduceSub, Nat.mul_zero, Nat.add_zero, Nat.pow_zero, Nat.one_mul]
        rw [Nat.mod_eq_of_lt (by omega)]
        try omega

theorem sar_all {X s : Nat} (hX : X < 18446744073709551616 ^ 4) (hs : s ≤ 256) : (X + 18446744073709551616 ^ 4 * (18446744073709551616 ^ 4 - 1)) / 2 ^ s % 18446744073709551616 ^ 4 = 18446744073709551616 ^ 4 - 1 - (18446744073709551616 ^ 4 - 1 - X) / 2 ^ s := by
  have e : (18446744073709551616 : Nat) ^ 4 = 2 ^ s * 2 ^ (256 - s) := by rw [← Nat.pow_add, show s + (256 - s) = 256 by omega]
  have hp : 0 < 2 ^ s := Nat.pow_pos (by decide)
  obtain ⟨Z, hZ⟩ : ∃ Z, Z = 18446744073709551616 ^ 4 - 1 - X := ⟨_, rfl⟩
  rw [← hZ]
  have hq : Z / 2 ^ s ≤ Z := Nat.div_le_self _ _
  have hd := Nat.div_add_mod Z (2 ^ s)
  have hm := Nat.mod_lt Z hp
  have hdv : (X + 18446744073709551616 ^ 4 * (18446744073709551616 ^ 4 - 1)) / 2 ^ s = 18446744073709551616 ^ 4 * (2 ^ (256 - s) - 1) + (18446744073709551616 ^ 4 - 1 - Z / 2 ^ s) := by
    have hpos : 0 < 2 ^ (256 - s) := Nat.pow_pos (by decide)
    have hA : X + 18446744073709551616 ^ 4 * (18446744073709551616 ^ 4 - 1) = 2 ^ s * (18446744073709551616 ^ 4 * (2 ^ (256 - s) - 1) + (18446744073709551616 ^ 4 - 1 - Z / 2 ^ s)) + (2 ^ s - 1 - Z % 2 ^ s) := by
      have e1 : 2 ^ s * (18446744073709551616 ^ 4 * (2 ^ (256 - s) - 1) + (18446744073709551616 ^ 4 - 1 - Z / 2 ^ s)) = 18446744073709551616 ^ 4 * (2 ^ s * 2 ^ (256 - s)) - 2 ^ s - 2 ^ s * (Z / 2 ^ s) := by
        have e2 : 18446744073709551616 ^ 4 * (2 ^ (256 - s) - 1) + (18446744073709551616 ^ 4 - 1 - Z / 2 ^ s) = 18446744073709551616 ^ 4 * 2 ^ (256 - s) - 1 - Z / 2 ^ s := by
          rw [Nat.mul_sub_one]
          have : 18446744073709551616 ^ 4 ≤ 18446744073709551616 ^ 4 * 2 ^ (256 - s) := Nat.le_mul_of_pos_right _ hpos
          omega
        rw [e2, Nat.mul_sub, Nat.mul_sub, Nat.mul_one, Nat.mul_left_comm]
      rw [e1, ← e]
      have hle : 2 ^ s ≤ 18446744073709551616 ^ 4 := by rw [e]; exact Nat.le_mul_of_pos_right _ hpos
      generalize 2 ^ s * (Z / 2 ^ s) = V at *
      generalize Z % 2 ^ s = U at *
      generalize 2 ^ s = P at *
      omega
    have h0 : (2 ^ s - 1 - Z % 2 ^ s) / 2 ^ s = 0 := Nat.div_eq_of_lt (by generalize Z % 2 ^ s = U at *; generalize 2 ^ s = P at *; omega)
    rw [hA, Nat.mul_add_div hp, h0, Nat.add_zero]
  have hlt : 18446744073709551616 ^ 4 - 1 - Z / 2 ^ s < 18446744073709551616 ^ 4 := by generalize Z / 2 ^ s = V; omega
  rw [hdv, Nat.mul_add_mod, Nat.mod_eq_of_lt hlt]
end Go.Own

/-
  Plain mathematics: the whole division by rounds; its path.
-/
import Derived.Test.YgcsalGreatPlainI
import Derived.Test.YgcsalGreatBits
namespace Go.Own
/-- How many limbs a number has. -/
def nlb (x : Nat) : Nat := (blen x + 63) / 64
theorem p64 (k : Nat) : 18446744073709551616 ^ k = 2 ^ (64 * k) := by rw [Nat.pow_mul]
theorem nlb_lt (x : Nat) : x < 18446744073709551616 ^ nlb x := by
  rw [p64]
  exact Nat.lt_of_lt_of_le (blen_lt x) (Nat.pow_le_pow_right (by decide) (by unfold nlb; omega))
theorem nlb_ge {x : Nat} (h : x ≠ 0) : 18446744073709551616 ^ (nlb x - 1) ≤ x := by
  rw [p64]
  have := blen_pos h
  exact Nat.le_trans (Nat.pow_le_pow_right (by decide) (by unfold nlb; omega)) (blen_ge h)
theorem nlb_pos {x : Nat} (h : x ≠ 0) : 0 < nlb x := by have := blen_pos h; unfold nlb; omega
theorem nlb_zero : nlb 0 = 0 := by decide
theorem nlb_unique {x t : Nat} (h1 : x < 18446744073709551616 ^ t) (h2 : t = 0 ∨ 18446744073709551616 ^ (t - 1) ≤ x) : nlb x = t := by
  rw [p64] at h1 h2
  have a := blen_le h1
  rcases h2 with rfl | h2
  · unfold nlb; omega
  · rcases Nat.eq_zero_or_pos t with rfl | ht
    · unfold nlb; omega
    · have h3 : ¬ blen x ≤ 64 * (t - 1) := fun h => by
        have := Nat.lt_of_lt_of_le (blen_lt x) (Nat.pow_le_pow_right (show 0 < 2 by decide) h)
        omega
      unfold nlb; omega
theorem nlb_le {x t : Nat} (h : x < 18446744073709551616 ^ t) : nlb x ≤ t := by
  rw [p64] at h
  have := blen_le h
  unfold nlb; omega
theorem lval_zero {l : List Nat} (h : ∀ x ∈ l, x = 0) : lval l = 0 := by
  induction l with
  | nil => rfl
  | cons x l ih => rw [lval, h x (by simp), ih (fun y hy => h y (by simp [hy]))]
theorem tl_nlb {l : List Nat} {k : Nat} (hL : Limbs l) (hk : l.length = k) : tl l k = nlb (lval l) := by
  have hle := tl_le l k
  have hs := lval_split (xs := l) (k := tl l k) (by omega)
  have hz : lval (l.drop (tl l k)) = 0 := by
    apply lval_zero
    intro x hx
    obtain ⟨i, hi, rfl⟩ := List.mem_iff_getElem.1 hx
    have hi' : i < l.length - tl l k := by simpa using hi
    have := tl_zero (ds := l) (k := k) (tl l k + i) (by omega) (by omega)
    rw [getD_get (by omega)] at this
    simpa using this
  rw [hz, Nat.mul_zero, Nat.add_zero] at hs
  symm
  apply nlb_unique
  · rw [hs]
    have := lval_lt (hL.take (tl l k))
    rwa [List.length_take, Nat.min_eq_left (by omega)] at this
  · rcases Nat.eq_zero_or_pos (tl l k) with h | h
    · exact Or.inl h
    · right
      have ht := tl_top (ds := l) (k := k) h
      have hlt : tl l k - 1 < l.length := by omega
      rw [getD_get hlt] at ht
      have e := lval_take_succ hlt
      rw [show tl l k - 1 + 1 = tl l k from by omega] at e
      rw [hs, e]
      have : 18446744073709551616 ^ (tl l k - 1) * 1 ≤ 18446744073709551616 ^ (tl l k - 1) * l[tl l k - 1] := Nat.mul_le_mul_left _ (by omega)
      omega
/-- The path's two counts: j rounds from the limbs us. -/
def runs (vs : List Nat) (n : Nat) : Nat → List Nat → Nat × Nat
  | 0, _ => (0, 0)
  | j + 1, us => ((rt (win us n j) vs n - rq (win us n j) vs n) + (runs vs n j (roundU us vs n j)).1, (if rb (win us n j) vs n then 1 else 0) + (runs vs n j (roundU us vs n j)).2)
/-- The path of X by V. -/
def pathN (X V : Nat) : Nat × Nat × Nat :=
  if nlb V = 0 ∨ nlb X < nlb V then (0, 0, 0)
  else if nlb V = 1 then (nlb X - nlb V + 1, 0, 0)
  else (nlb X - nlb V + 1, runs (nl 4 (V * 2 ^ (64 * nlb V - blen V))) (nlb V) (nlb X - nlb V + 1) (nl 9 (X * 2 ^ (64 * nlb V - blen V))))
/-- A divisor that is shifted up as far as it goes. -/
structure Nrm (vs : List Nat) (n : Nat) : Prop where
  len : vs.length = 4
  limbs : Limbs vs
  lo : 2 ≤ n
  hi : n ≤ 4
  lt : lval vs < 2 ^ (64 * n)
  ge : 2 ^ (64 * n - 1) ≤ lval vs
/-- The rounds' invariant, j rounds ahead. -/
structure GoodD (us vs : List Nat) (n j : Nat) : Prop where
  len : us.length = 9
  limbs : Limbs us
  place : j + n ≤ 9
  lt : lval (us.drop j) < lval vs
theorem GoodD.mid {us vs : List Nat} {n j : Nat} (N : Nrm vs n) (G : GoodD us vs n (j + 1)) : midB us vs n j = true := by
  simp only [midB, decide_eq_true_eq]
  have := G.place
  exact ⟨N.lo, N.hi, by omega, N.lt, N.ge, G.lt⟩
theorem GoodD.step {us vs : List Nat} {n j : Nat} (N : Nrm vs n) (G : GoodD us vs n (j + 1)) :
    GoodD (roundU us vs n j) vs n j ∧ lval us = lval (roundU us vs n j) + 18446744073709551616 ^ j * (lval (win us n j) / lval (vs.take n) * lval vs) ∧ lval (win us n j) / lval (vs.take n) < 18446744073709551616 ∧
    rt (win us n j) vs n - rq (win us n j) vs n ≤ 2 := by
  have hm := G.mid N
  have hp := G.place
  obtain ⟨h1, h2, h3, h4, h5, h6, h7, h8⟩ := mid_facts G.len N.len G.limbs N.limbs hm
  obtain ⟨o1, o2, o3, o4, o5, o6⟩ := round_owes G.len N.len G.limbs N.limbs hm
  have hd : lval ((roundU us vs n j).drop j) = lval (win (roundU us vs n j) n j) := by
    rw [roundU_drop G.len h3, lval_append, h6, Nat.mul_zero, Nat.add_zero, ← roundU_win G.len h3]
  refine ⟨⟨roundU_length G.len h3, roundU_limbs G.limbs, by omega, by rw [hd]; exact o2⟩, ?_, o3, o4⟩
  have e1 := lval_split (xs := us) (k := j) (by have := G.len; omega)
  have e2 := lval_split (xs := roundU us vs n j) (k := j) (by rw [roundU_length G.len h3]; omega)
  have e3 : (roundU us vs n j).take j = us.take j := by
    unfold roundU
    have := G.len
    rw [List.append_assoc, List.take_append_of_le_length (by simp; omega), List.take_of_length_le (by simp; omega)]
  rw [h8, ← o1, Nat.mul_add] at e1
  rw [e3, hd] at e2
  rw [e1, e2]
  omega
theorem GoodD.runs_le {vs : List Nat} {n : Nat} (N : Nrm vs n) : ∀ (j : Nat) (us : List Nat), GoodD us vs n j → (runs vs n j us).1 ≤ 2 * j ∧ (runs vs n j us).2 ≤ j
  | 0, _, _ => by simp [runs]
  | j + 1, us, G => by
    obtain ⟨G', _, _, h⟩ := G.step N
    have := GoodD.runs_le N j _ G'
    simp only [runs]
    split <;> omega
theorem lval_set {l : List Nat} {j q : Nat} (hj : j < l.length) (h0 : l[j] = 0) : lval (l.set j q) = lval l + 18446744073709551616 ^ j * q := by
  have e1 := lval_split (xs := l) (k := j) (by omega)
  have e2 := lval_split (xs := l.set j q) (k := j) (by simp; omega)
  rw [List.take_set_of_le (by omega), lval_drop (by simpa using hj)] at e2
  rw [lval_drop hj, h0] at e1
  rw [List.getElem_set_self, List.drop_set_of_lt (by omega)] at e2
  rw [e1, e2, Nat.zero_add, Nat.mul_add]
  omega
/-- The shift that norms a divisor of two limbs or more. -/
theorem nrm_of {V : Nat} (h2 : 2 ≤ nlb V) (h4 : nlb V ≤ 4) : Nrm (nl 4 (V * 2 ^ (64 * nlb V - blen V))) (nlb V) ∧ lval (nl 4 (V * 2 ^ (64 * nlb V - blen V))) = V * 2 ^ (64 * nlb V - blen V) ∧ 64 * nlb V - blen V < 64 := by
  have hV : V ≠ 0 := by intro h; subst h; rw [nlb_zero] at h2; omega
  have hbp := blen_pos hV
  have hb : blen V ≤ 64 * nlb V := by unfold nlb; omega
  have hb2 : 64 * nlb V - blen V < 64 := by unfold nlb; omega
  have h1 : V * 2 ^ (64 * nlb V - blen V) < 2 ^ (64 * nlb V) := by
    have : V * 2 ^ (64 * nlb V - blen V) < 2 ^ blen V * 2 ^ (64 * nlb V - blen V) := Nat.mul_lt_mul_of_pos_right (blen_lt V) (Nat.pow_pos (by decide))
    rwa [← Nat.pow_add, show blen V + (64 * nlb V - blen V) = 64 * nlb V from by omega] at this
  have h3 : 2 ^ (64 * nlb V - 1) ≤ V * 2 ^ (64 * nlb V - blen V) := by
    have := Nat.mul_le_mul_right (2 ^ (64 * nlb V - blen V)) (blen_ge hV)
    rwa [← Nat.pow_add, show blen V - 1 + (64 * nlb V - blen V) = 64 * nlb V - 1 from by omega] at this
  have h5 : lval (nl 4 (V * 2 ^ (64 * nlb V - blen V))) = V * 2 ^ (64 * nlb V - blen V) := by
    rw [nl_lval, Nat.mod_eq_of_lt]
    rw [p64]
    exact Nat.lt_of_lt_of_le h1 (Nat.pow_le_pow_right (by decide) (by omega))
  exact ⟨⟨nl_length _ _, nl_limbs _ _, h2, h4, by rw [h5]; exact h1, by rw [h5]; exact h3⟩, h5, hb2⟩
theorem good_of {X V : Nat} (hX : X < 18446744073709551616 ^ 8) (h2 : 2 ≤ nlb V) (h4 : nlb V ≤ 4) (hle : nlb V ≤ nlb X) :
    GoodD (nl 9 (X * 2 ^ (64 * nlb V - blen V))) (nl 4 (V * 2 ^ (64 * nlb V - blen V))) (nlb V) (nlb X - nlb V + 1) ∧ lval (nl 9 (X * 2 ^ (64 * nlb V - blen V))) = X * 2 ^ (64 * nlb V - blen V) := by
  obtain ⟨_, hV, hs⟩ := nrm_of h2 h4
  have hV0 : V ≠ 0 := by intro h; subst h; rw [nlb_zero] at h2; omega
  have hm := nlb_le hX
  have hbig : X * 2 ^ (64 * nlb V - blen V) < 18446744073709551616 ^ 9 := by
    have h1 : X * 2 ^ (64 * nlb V - blen V) < 18446744073709551616 ^ 8 * 2 ^ (64 * nlb V - blen V) := Nat.mul_lt_mul_of_pos_right hX (Nat.pow_pos (by decide))
    have h2 : 18446744073709551616 ^ 8 * 2 ^ (64 * nlb V - blen V) ≤ 18446744073709551616 ^ 8 * 2 ^ 64 := Nat.mul_le_mul_left _ (Nat.pow_le_pow_right (by decide) (by omega))
    exact Nat.lt_of_lt_of_le h1 h2
  have e : lval (nl 9 (X * 2 ^ (64 * nlb V - blen V))) = X * 2 ^ (64 * nlb V - blen V) := by rw [nl_lval, Nat.mod_eq_of_lt hbig]
  refine ⟨⟨nl_length _ _, nl_limbs _ _, by omega, ?_⟩, e⟩
  have hsp := lval_split (xs := nl 9 (X * 2 ^ (64 * nlb V - blen V))) (k := nlb X - nlb V + 1) (by rw [nl_length]; omega)
  rw [e] at hsp
  rw [hV]
  have h1 : X < V * 18446744073709551616 ^ (nlb X - nlb V + 1) := by
    refine Nat.lt_of_lt_of_le (nlb_lt X) ?_
    have := Nat.mul_le_mul_right (18446744073709551616 ^ (nlb X - nlb V + 1)) (nlb_ge hV0)
    rwa [← Nat.pow_add, show nlb V - 1 + (nlb X - nlb V + 1) = nlb X from by omega] at this
  have h3 : X * 2 ^ (64 * nlb V - blen V) < V * 18446744073709551616 ^ (nlb X - nlb V + 1) * 2 ^ (64 * nlb V - blen V) := Nat.mul_lt_mul_of_pos_right h1 (Nat.pow_pos (by decide))
  refine Nat.lt_of_mul_lt_mul_left (a := 18446744073709551616 ^ (nlb X - nlb V + 1)) ?_
  rw [show 18446744073709551616 ^ (nlb X - nlb V + 1) * (V * 2 ^ (64 * nlb V - blen V)) = V * 18446744073709551616 ^ (nlb X - nlb V + 1) * 2 ^ (64 * nlb V - blen V) from by rw [← Nat.mul_assoc, Nat.mul_comm (18446744073709551616 ^ (nlb X - nlb V + 1)) V]]
  omega
/-- What the rounds leave at their end. -/
theorem div_end {us zs qs : List Nat} {n X V s : Nat} (N : Nrm zs n) (G : GoodD us zs n 0) (hz : lval zs = V * 2 ^ s) (hV : V ≠ 0) (hq : lval qs * lval zs + lval us = X * 2 ^ s) :
    lval qs = X / V ∧ lval (us.take 4) / 2 ^ s = X % V := by
  have hp : 0 < 2 ^ s := Nat.pow_pos (by decide)
  have hlt : lval us < V * 2 ^ s := by have := G.lt; rw [List.drop_zero, hz] at this; exact this
  have hVp : 0 < V * 2 ^ s := Nat.mul_pos (by omega) hp
  rw [hz] at hq
  have h1 : lval qs = X / V := by
    rw [← Nat.mul_div_mul_right X V hp, ← hq, Nat.mul_comm, Nat.mul_add_div hVp, Nat.div_eq_of_lt hlt, Nat.add_zero]
  have h2 : lval us = X % V * 2 ^ s := by
    rw [← Nat.mul_mod_mul_right, ← hq, Nat.mul_comm, Nat.mul_add_mod, Nat.mod_eq_of_lt hlt]
  have h3 : lval us < 18446744073709551616 ^ 4 := by
    rw [p64]
    refine Nat.lt_of_lt_of_le (Nat.lt_trans hlt (by rw [← hz]; exact N.lt)) (Nat.pow_le_pow_right (by decide) ?_)
    have := N.hi; omega
  have h4 := lval_split (xs := us) (k := 4) (by rw [G.len]; decide)
  have h5 : lval (us.drop 4) = 0 := by
    rcases Nat.eq_zero_or_pos (lval (us.drop 4)) with h | h
    · exact h
    · have : 18446744073709551616 ^ 4 * 1 ≤ 18446744073709551616 ^ 4 * lval (us.drop 4) := Nat.mul_le_mul_left _ h
      omega
  rw [h5, Nat.mul_zero, Nat.add_zero] at h4
  exact ⟨h1, by rw [← h4, h2, Nat.mul_div_cancel _ hp]⟩
theorem div_step {Q V U U' p q X : Nat} (h : Q * V + U = X) (hU : U = U' + p * (q * V)) : (Q + p * q) * V + U' = X := by
  rw [Nat.add_mul, Nat.mul_assoc]; omega
/-- The shift as the program finds it. -/
theorem blen_top {vs : List Nat} {n : Nat} (hL : Limbs vs) (h : vs.length = 4) (hn : nlb (lval vs) = n) (h0 : 0 < n) : n ≤ 4 ∧ vs.getD (n - 1) 0 ≠ 0 ∧ 64 - blen (vs.getD (n - 1) 0) = 64 * n - blen (lval vs) := by
  have e := tl_nlb hL h
  have hle := tl_le vs 4
  rw [hn] at e
  have ht := tl_top (ds := vs) (k := 4) (by omega)
  rw [e] at ht
  refine ⟨by omega, ht, ?_⟩
  have hlt : n - 1 < vs.length := by omega
  rw [getD_get hlt] at ht ⊢
  have hz := lval_split (xs := vs) (k := n) (by omega)
  have hz2 : lval (vs.drop n) = 0 := by
    apply lval_zero
    intro x hx
    obtain ⟨i, hi, rfl⟩ := List.mem_iff_getElem.1 hx
    have hi' : i < vs.length - n := by simpa using hi
    have := tl_zero (ds := vs) (k := 4) (n + i) (by omega) (by omega)
    rw [getD_get (by omega)] at this
    simpa using this
  have e3 := lval_take_succ hlt
  rw [show n - 1 + 1 = n from by omega] at e3
  rw [hz2, e3, Nat.mul_zero, Nat.add_zero] at hz
  have hl := lval_lt (hL.take (n - 1))
  rw [List.length_take, Nat.min_eq_left (by omega)] at hl
  rw [p64] at hl hz
  have hdiv : lval vs / 2 ^ (64 * (n - 1)) = vs[n - 1] := by
    rw [hz, Nat.add_mul_div_left _ _ (Nat.pow_pos (by decide)), Nat.div_eq_of_lt hl, Nat.zero_add]
  have hge : 2 ^ (64 * (n - 1)) ≤ lval vs := by
    rw [hz]
    have : 2 ^ (64 * (n - 1)) * 1 ≤ 2 ^ (64 * (n - 1)) * vs[n - 1] := Nat.mul_le_mul_left _ (by omega)
    omega
  have := blen_shift hge
  rw [hdiv] at this
  have hb := blen_le (x := vs[n - 1]) (k := 64) (hL.get hlt)
  omega
end Go.Own

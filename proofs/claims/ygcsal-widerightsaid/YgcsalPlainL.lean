/-
  Plain mathematics: 64 bytes, the most significant first, laid into eight limbs.
-/
import Derived.Test.YgcsalFromBE
namespace Go.Own
def chunk (zs : List Nat) (i k : Nat) : List Nat := ((zs.take i).drop (8 * k)).take 8
def In8 (zs : List Nat) (i : Nat) (l : List Nat) : Prop := l.length = 8 ∧ ∀ k, k < 8 → l[7 - k]? = some (be (chunk zs i k))
theorem in8_start (zs : List Nat) : In8 zs 0 (List.replicate 8 0) := by
  refine ⟨rfl, fun k hk => ?_⟩
  rw [List.getElem?_replicate, if_pos (by omega)]
  simp [chunk, be]
theorem chunk_small {zs : List Nat} (hs : Small zs) (i k : Nat) : Small (chunk zs i k) := fun x hx => hs x (List.mem_of_mem_take (List.mem_of_mem_drop (List.mem_of_mem_take hx)))
theorem in8_limbs {zs l : List Nat} {i : Nat} (hs : Small zs) (h : In8 zs i l) : Limbs l := by
  intro x hx
  obtain ⟨j, hj, rfl⟩ := List.mem_iff_getElem.1 hx
  have h8 := h.1
  have := h.2 (7 - j) (by omega)
  rw [show 7 - (7 - j) = j from by omega, List.getElem?_eq_getElem hj] at this
  obtain h' : l[j] = _ := by simpa using this
  rw [h']
  refine Nat.lt_of_lt_of_le (be_small_lt (chunk_small hs _ _)) ?_
  exact Nat.pow_le_pow_right (n := 256) (j := 8) (by decide) (by simp [chunk]; omega)
theorem in8_step {zs l : List Nat} {i : Nat} (hs : Small zs) (hz : zs.length = 64) (hi : i < 64) (h : In8 zs i l) {x c : Nat} (hx : l[7 - i / 8]? = some x) (hc : zs[i]? = some c) :
    In8 zs (i + 1) (l.set (7 - i / 8) (x * 256 % 18446744073709551616 + c)) := by
  obtain ⟨h8, hk⟩ := h
  refine ⟨by simp [h8], fun k hk8 => ?_⟩
  have hi' : i < zs.length := by omega
  have hcz : zs[i] = c := by rw [List.getElem?_eq_getElem hi'] at hc; simpa using hc
  have htk : zs.take (i + 1) = zs.take i ++ [c] := by rw [List.take_succ_eq_append_getElem hi', hcz]
  have htl : (zs.take i).length = i := by simp; omega
  rcases Nat.lt_trichotomy k (i / 8) with hlt | rfl | hgt
  · rw [List.getElem?_set_ne (by omega), hk k hk8]
    congr 2
    unfold chunk
    rw [htk, List.drop_append_of_le_length (by omega), List.take_append_of_le_length (by simp; omega)]
  · have hold := hk (i / 8) hk8
    rw [hx] at hold
    obtain hxe : x = be (chunk zs i (i / 8)) := by simpa using hold
    have hD : chunk zs i (i / 8) = (zs.take i).drop (8 * (i / 8)) := by unfold chunk; rw [List.take_of_length_le (by simp; omega)]
    have hD1 : chunk zs (i + 1) (i / 8) = chunk zs i (i / 8) ++ [c] := by
      rw [hD]; unfold chunk
      rw [htk, List.drop_append_of_le_length (by omega), List.take_of_length_le (by simp; omega)]
    have hb := be_small_lt (chunk_small hs i (i / 8))
    have hl : (chunk zs i (i / 8)).length ≤ 7 := by rw [hD]; simp; omega
    have hb2 : be (chunk zs i (i / 8)) < 256 ^ 7 := Nat.lt_of_lt_of_le hb (Nat.pow_le_pow_right (by decide) hl)
    rw [List.getElem?_set_self (by omega), hD1, be_app, ← hxe]
    rw [← hxe] at hb2
    simp only [List.length_cons, List.length_nil, be, List.foldl_cons, List.foldl_nil, Nat.zero_mul, Nat.zero_add, Nat.pow_one]
    rw [Nat.mod_eq_of_lt (by omega)]
  · rw [List.getElem?_set_ne (by omega), hk k hk8]
    congr 2
    unfold chunk
    rw [List.drop_of_length_le (by simp; omega), List.drop_of_length_le (by simp; omega)]
theorem in8_end {zs l : List Nat} (hz : zs.length = 64) (h : In8 zs 64 l) : lval l = be zs := by
  obtain ⟨h8, hk⟩ := h
  obtain ⟨l0, l1, l2, l3, l4, l5, l6, l7, rfl⟩ : ∃ a b c d e f g h, l = [a, b, c, d, e, f, g, h] := by
    match l, h8 with
    | [a, b, c, d, e, f, g, h], _ => exact ⟨a, b, c, d, e, f, g, h, rfl⟩
  have hch : ∀ k, chunk zs 64 k = (zs.drop (8 * k)).take 8 := fun k => by unfold chunk; rw [List.take_of_length_le (l := zs) (by omega)]
  have k0 := hk 0 (by decide); have k1 := hk 1 (by decide); have k2 := hk 2 (by decide); have k3 := hk 3 (by decide)
  have k4 := hk 4 (by decide); have k5 := hk 5 (by decide); have k6 := hk 6 (by decide); have k7 := hk 7 (by decide)
  simp only [hch, Nat.reduceSub, Nat.reduceMul, List.getElem?_cons_succ, List.getElem?_cons_zero, Option.some.injEq, List.drop_zero] at k0 k1 k2 k3 k4 k5 k6 k7
  have hcut : ∀ m, zs.drop m = (zs.drop m).take 8 ++ zs.drop (m + 8) := fun m => by
    conv => lhs; rw [← List.take_append_drop 8 (zs.drop m), List.drop_drop]
  have hlen : ∀ m, (zs.drop m).length = 64 - m := fun m => by simp [hz]
  have hb : ∀ m, be (zs.drop m) = be ((zs.drop m).take 8) * 256 ^ (64 - (m + 8)) + be (zs.drop (m + 8)) := fun m => by
    conv => lhs; rw [hcut m]
    rw [be_app, hlen]
  have e0 := hb 0; have e1 := hb 8; have e2 := hb 16; have e3 := hb 24; have e4 := hb 32; have e5 := hb 40; have e6 := hb 48; have e7 := hb 56
  have e8 : be (zs.drop 64) = 0 := by rw [List.drop_of_length_le (by omega)]; rfl
  simp only [List.drop_zero, Nat.reduceAdd, Nat.reduceSub] at e0 e1 e2 e3 e4 e5 e6 e7
  rw [← k0] at e0; rw [← k1] at e1; rw [← k2] at e2; rw [← k3] at e3; rw [← k4] at e4; rw [← k5] at e5; rw [← k6] at e6; rw [← k7] at e7
  rw [e0, e1, e2, e3, e4, e5, e6, e7, e8]
  simp only [lval, Nat.mul_zero, Nat.add_zero, Nat.pow_zero, Nat.mul_one]
  show l0 + 18446744073709551616 * (l1 + 18446744073709551616 * (l2 + 18446744073709551616 * (l3 + 18446744073709551616 * (l4 + 18446744073709551616 * (l5 + 18446744073709551616 * (l6 + 18446744073709551616 * l7)))))) = _
  omega
end Go.Own

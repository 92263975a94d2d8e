/-
  The walks of nat.Bit, yp.isNegative, law.modPow, law.lessThanAll.
-/
import Derived.Test.YgcsalGreatNat5
import Derived.Test.YgcsalGreatIsNat
set_option linter.unusedSimpArgs false
namespace Go.Own
theorem val_bit {ds : List Nat} (hs : Small ds) (i : Nat) : val ds / 2 ^ i % 2 = ds.getD (i / 8) 0 / 2 ^ (i % 8) % 2 := by
  rcases Nat.lt_or_ge (i / 8) ds.length with h | h
  · have e1 := val_split (ds := ds) (k := i / 8) (by omega)
    rw [val_drop_cons h] at e1
    have hl := val_lt (hs.take (i / 8))
    rw [List.length_take, Nat.min_eq_left (by omega)] at hl
    rw [getD_get h]
    have hp : 2 ^ i = 256 ^ (i / 8) * 2 ^ (i % 8) := by
      rw [show (256 : Nat) = 2 ^ 8 from rfl, ← Nat.pow_mul, ← Nat.pow_add]
      congr 1; omega
    rw [hp, ← Nat.div_div_eq_div_mul, e1, Nat.add_mul_div_left _ _ (Nat.pow_pos (by decide)), Nat.div_eq_of_lt hl, Nat.zero_add]
    have h8 : (256 : Nat) = 2 ^ (i % 8) * (2 * 2 ^ (7 - i % 8)) := by
      rw [← Nat.pow_succ', ← Nat.pow_add, show i % 8 + (7 - i % 8 + 1) = 8 from by omega]
    rw [show ds[i / 8] + 256 * val (ds.drop (i / 8 + 1)) = ds[i / 8] + 2 ^ (i % 8) * (2 * (2 ^ (7 - i % 8) * val (ds.drop (i / 8 + 1)))) from by
      conv => lhs; rw [h8]
      simp only [Nat.mul_assoc]]
    rw [Nat.add_mul_div_left _ _ (Nat.pow_pos (by decide)), Nat.add_mul_mod_self_left]
  · have hl := val_lt hs
    have h1 : val ds < 2 ^ i := Nat.lt_of_lt_of_le hl (by
      rw [show (256 : Nat) = 2 ^ 8 from rfl, ← Nat.pow_mul]
      exact Nat.pow_le_pow_right (by decide) (by omega))
    rw [Nat.div_eq_of_lt h1, List.getD_eq_getElem?_getD, List.getElem?_eq_none h]
    simp
end Go.Own
namespace Go.Proofs.YgcsalGreat
open Go.RowKit Go.Own

set_option maxHeartbeats 2000000 in
set_option maxRecDepth 100000 in
theorem natBit_any (v : Value) (N i : Nat) (w : World) (hN : NumV w v N) (hi : i < 65536) : Calls Salg.prog 205 #[v, .int .u16 i] w fun e w' => e = .returned (.bool (decide (N / 2 ^ i % 2 = 1))) ∧ w' = w := by
  obtain ⟨ds, ⟨p, c, rfl, hc, hc', hd, hs⟩, ht, rfl⟩ := hN
  have HB := hid (val_bit hs i)
  have hlen : ds.length ≤ 1000000 := by omega
  rcases Nat.lt_or_ge (i / 8) ds.length with h | h
  · obtain ⟨b, t, cs, rfl, hr, hpre⟩ := hd.at h
    have hg : cs[i / 8]? = some ds[i / 8] := pre_get hpre h
    have hx := hs _ (List.getElem_mem h)
    rw [getD_get h] at HB
    clear hpre ht hs hd
    generalize ds[i / 8] = x at *
    generalize ds.length = n at *
    have d1 : decide ((i : Int) / 8 < (n : Int)) = true := by simp; omega
    have d2 : decide (i / 8 < n) = true := by simp; omega
    go_enter Salg.func205, Salg.ntmps205
    go_wp2_with ((with_reducible apply W_loadCellG); rfl; rfl; exact hr; exact get_map hg; exact Salg.underlying5; rfl; simp only [Act.put, List.setIfInBounds_toArray, List.set_cons_zero, List.set_cons_succ])
    go_ret
    refine ⟨?_, rfl⟩
    have hv : (bits .and .u8 ((x : Int) / 2 ^ (i % 8)) 1 == 1) = decide (val ds / 2 ^ i % 2 = 1) := by
      rw [and1_int hx, HB.out, Bool.eq_iff_iff]
      simp only [beq_iff_eq, decide_eq_true_eq]
      omega
    rw [← hv]
    rfl
  · have hz : Hid (decide (val ds / 2 ^ i % 2 = 1) = false) := by
      show _ = _
      rw [HB.out, List.getD_eq_getElem?_getD, List.getElem?_eq_none h]
      simp
    clear ht hs hd HB
    rw [hz.out]
    generalize ds.length = n at *
    have d1 : decide ((i : Int) / 8 < (n : Int)) = false := by simp; omega
    have d2 : decide (i / 8 < n) = false := by simp; omega
    go_enter Salg.func205, Salg.ntmps205
    go_wp2_with fail
    go_ret
    exact ⟨rfl, rfl⟩
end Go.Proofs.YgcsalGreat

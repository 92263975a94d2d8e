/-
  The walk of yp.shifted, one theorem an operation.
-/
import Derived.Test.YgcsalGreatYp8
set_option linter.unusedSimpArgs false
set_option linter.unusedVariables false
namespace Go.Proofs.YgcsalGreat
open Go.RowKit Go.Own
theorem pow2_min (X : Nat) : 2 ^ (min X 256) ≤ 2 ^ 256 := Nat.pow_le_pow_right (by decide) (Nat.min_le_right _ _)

set_option maxHeartbeats 2000000 in
set_option maxRecDepth 100000 in
theorem shifted_shl (v u : Value) (X Y : Nat) (w : World) (hv : NumV w v X) (hu : NumV w u Y) (hY : Y < 2 ^ 256) :
    Calls Salg.prog 152 #[.int .u8 27, v, u] w fun e w' => ∃ r, e = .returned r ∧ NumV w' r (Y * 2 ^ min X 256 % 2 ^ 256) ∧ Kept [] w w' := by
  have M := Mem.start w []
  have HU := hid hu
  have HYY := hid hY
  have hY2 := lt200 hY
  have hp1 := pow2_min X
  have hp2 : 2 ^ min X 256 ≠ 0 := Nat.pos_iff_ne_zero.1 (Nat.pow_pos (by decide))
  have hp3 : 2 ^ min X 256 < 256 ^ 200 := Nat.lt_of_le_of_lt hp1 (by decide)
  have HPL := hid hp3
  have HPP := hid hp2
  clear hp1 hp2 hp3
  rcases Nat.lt_or_ge X 18446744073709551616 with hX | hX
  · have HC := hid (u64_num v X w hv hX)
    clear hv hu hY
    rcases Nat.lt_or_ge 256 X with h | h
    · have d1 : decide ((256 : Int) < (X : Int)) = true := by simp; omega
      have hm : min X 256 = 256 := by omega
      simp only [hm] at HPL HPP ⊢
      clear hm
      go_enter Salg.func152, Salg.ntmps152
      go_wp2_with fail
      refine HC.out.mono ?_
      rintro e w2 ⟨rfl, rfl⟩
      clear HC
      go_wp2_with fail
      refine (pow2_int _ (by omega) (by omega) _).mono ?_
      rintro e w3 ⟨P1, rfl, xHP1, K⟩
      have HP1 := hid xHP1
      replace HU := hid (HU.out.kept K)
      replace M := M.call K
      clear K xHP1
      rw [show (256 : Int).toNat = 256 by omega] at HP1
      go_wp2_with fail
      refine (mul_num _ _ _ _ _ HU.out HP1.out hY2 HPL.out).mono ?_
      rintro e w4 ⟨Q1, rfl, xHQ1, K⟩
      have HQ1 := hid xHQ1
      replace M := M.call K
      clear K xHQ1
      go_wp2_with fail
      refine (wrapped_any _ _ _ HQ1.out).mono ?_
      rintro e w5 ⟨Q2, rfl, xHQ2, K⟩
      have HQ2 := hid xHQ2
      replace M := M.call K
      clear K xHQ2
      go_wp2_with fail
      go_ret
      exact ⟨_, rfl, HQ2.out, M.kept⟩
    · have d1 : decide ((256 : Int) < (X : Int)) = false := by simp; omega
      have hm : min X 256 = X := by omega
      simp only [hm] at HPL HPP ⊢
      clear hm
      go_enter Salg.func152, Salg.ntmps152
      go_wp2_with fail
      refine HC.out.mono ?_
      rintro e w2 ⟨rfl, rfl⟩
      clear HC
      go_wp2_with fail
      refine (pow2_int _ (by omega) (by omega) _).mono ?_
      rintro e w3 ⟨P1, rfl, xHP1, K⟩
      have HP1 := hid xHP1
      replace HU := hid (HU.out.kept K)
      replace M := M.call K
      clear K xHP1
      rw [show ((X : Int)).toNat = X by omega] at HP1
      go_wp2_with fail
      refine (mul_num _ _ _ _ _ HU.out HP1.out hY2 HPL.out).mono ?_
      rintro e w4 ⟨Q1, rfl, xHQ1, K⟩
      have HQ1 := hid xHQ1
      replace M := M.call K
      clear K xHQ1
      go_wp2_with fail
      refine (wrapped_any _ _ _ HQ1.out).mono ?_
      rintro e w5 ⟨Q2, rfl, xHQ2, K⟩
      have HQ2 := hid xHQ2
      replace M := M.call K
      clear K xHQ2
      go_wp2_with fail
      go_ret
      exact ⟨_, rfl, HQ2.out, M.kept⟩
  · have HC := hid (u64_big v X w hv hX)
    clear hv hu hY
    have hm : min X 256 = 256 := by omega
    simp only [hm] at HPL HPP ⊢
    clear hm
    go_enter Salg.func152, Salg.ntmps152
    go_wp2_with fail
    refine HC.out.mono ?_
    rintro e w2 ⟨rfl, rfl⟩
    clear HC
    go_wp2_with fail
    refine (pow2_int _ (by omega) (by omega) _).mono ?_
    rintro e w3 ⟨P1, rfl, xHP1, K⟩
    have HP1 := hid xHP1
    replace HU := hid (HU.out.kept K)
    replace M := M.call K
    clear K xHP1
    rw [show (256 : Int).toNat = 256 by omega] at HP1
    go_wp2_with fail
    refine (mul_num _ _ _ _ _ HU.out HP1.out hY2 HPL.out).mono ?_
    rintro e w4 ⟨Q1, rfl, xHQ1, K⟩
    have HQ1 := hid xHQ1
    replace M := M.call K
    clear K xHQ1
    go_wp2_with fail
    refine (wrapped_any _ _ _ HQ1.out).mono ?_
    rintro e w5 ⟨Q2, rfl, xHQ2, K⟩
    have HQ2 := hid xHQ2
    replace M := M.call K
    clear K xHQ2
    go_wp2_with fail
    go_ret
    exact ⟨_, rfl, HQ2.out, M.kept⟩

set_option maxHeartbeats 2000000 in
set_option maxRecDepth 100000 in
theorem shifted_shr (v u : Value) (X Y : Nat) (w : World) (hv : NumV w v X) (hu : NumV w u Y) (hY : Y < 2 ^ 256) :
    Calls Salg.prog 152 #[.int .u8 28, v, u] w fun e w' => ∃ r, e = .returned r ∧ NumV w' r (Y / 2 ^ min X 256) ∧ Kept [] w w' := by
  have M := Mem.start w []
  have HU := hid hu
  have HYY := hid hY
  have hY2 := lt200 hY
  have hp1 := pow2_min X
  have hp2 : 2 ^ min X 256 ≠ 0 := Nat.pos_iff_ne_zero.1 (Nat.pow_pos (by decide))
  have hp3 : 2 ^ min X 256 < 256 ^ 200 := Nat.lt_of_le_of_lt hp1 (by decide)
  have HPL := hid hp3
  have HPP := hid hp2
  clear hp1 hp2 hp3
  rcases Nat.lt_or_ge X 18446744073709551616 with hX | hX
  · have HC := hid (u64_num v X w hv hX)
    clear hv hu hY
    rcases Nat.lt_or_ge 256 X with h | h
    · have d1 : decide ((256 : Int) < (X : Int)) = true := by simp; omega
      have hm : min X 256 = 256 := by omega
      simp only [hm] at HPL HPP ⊢
      clear hm
      go_enter Salg.func152, Salg.ntmps152
      go_wp2_with fail
      refine HC.out.mono ?_
      rintro e w2 ⟨rfl, rfl⟩
      clear HC
      go_wp2_with fail
      refine (pow2_int _ (by omega) (by omega) _).mono ?_
      rintro e w3 ⟨P1, rfl, xHP1, K⟩
      have HP1 := hid xHP1
      replace HU := hid (HU.out.kept K)
      replace M := M.call K
      clear K xHP1
      rw [show (256 : Int).toNat = 256 by omega] at HP1
      go_wp2_with fail
      refine (divMod_num _ _ _ _ _ HU.out HP1.out hY2 HPL.out HPP.out).mono ?_
      rintro e w4 ⟨Q1, R1, rfl, xHQ1, xHR1, K⟩
      have HQ1 := hid xHQ1
      have HR1 := hid xHR1
      replace M := M.call K
      clear K xHQ1 xHR1
      clear HR1
      go_wp2_with fail
      go_ret
      exact ⟨_, rfl, HQ1.out, M.kept⟩
    · have d1 : decide ((256 : Int) < (X : Int)) = false := by simp; omega
      have hm : min X 256 = X := by omega
      simp only [hm] at HPL HPP ⊢
      clear hm
      go_enter Salg.func152, Salg.ntmps152
      go_wp2_with fail
      refine HC.out.mono ?_
      rintro e w2 ⟨rfl, rfl⟩
      clear HC
      go_wp2_with fail
      refine (pow2_int _ (by omega) (by omega) _).mono ?_
      rintro e w3 ⟨P1, rfl, xHP1, K⟩
      have HP1 := hid xHP1
      replace HU := hid (HU.out.kept K)
      replace M := M.call K
      clear K xHP1
      rw [show ((X : Int)).toNat = X by omega] at HP1
      go_wp2_with fail
      refine (divMod_num _ _ _ _ _ HU.out HP1.out hY2 HPL.out HPP.out).mono ?_
      rintro e w4 ⟨Q1, R1, rfl, xHQ1, xHR1, K⟩
      have HQ1 := hid xHQ1
      have HR1 := hid xHR1
      replace M := M.call K
      clear K xHQ1 xHR1
      clear HR1
      go_wp2_with fail
      go_ret
      exact ⟨_, rfl, HQ1.out, M.kept⟩
  · have HC := hid (u64_big v X w hv hX)
    clear hv hu hY
    have hm : min X 256 = 256 := by omega
    simp only [hm] at HPL HPP ⊢
    clear hm
    go_enter Salg.func152, Salg.ntmps152
    go_wp2_with fail
    refine HC.out.mono ?_
    rintro e w2 ⟨rfl, rfl⟩
    clear HC
    go_wp2_with fail
    refine (pow2_int _ (by omega) (by omega) _).mono ?_
    rintro e w3 ⟨P1, rfl, xHP1, K⟩
    have HP1 := hid xHP1
    replace HU := hid (HU.out.kept K)
    replace M := M.call K
    clear K xHP1
    rw [show (256 : Int).toNat = 256 by omega] at HP1
    go_wp2_with fail
    refine (divMod_num _ _ _ _ _ HU.out HP1.out hY2 HPL.out HPP.out).mono ?_
    rintro e w4 ⟨Q1, R1, rfl, xHQ1, xHR1, K⟩
    have HQ1 := hid xHQ1
    have HR1 := hid xHR1
    replace M := M.call K
    clear K xHQ1 xHR1
    clear HR1
    go_wp2_with fail
    go_ret
    exact ⟨_, rfl, HQ1.out, M.kept⟩

set_option maxHeartbeats 2000000 in
set_option maxRecDepth 100000 in
theorem shifted_sar0 (v u : Value) (X Y : Nat) (w : World) (hv : NumV w v X) (hu : NumV w u Y) (hY : Y < 2 ^ 256) (hn : ¬ 2 ^ 255 ≤ Y) :
    Calls Salg.prog 152 #[.int .u8 29, v, u] w fun e w' => ∃ r, e = .returned r ∧ NumV w' r (Y / 2 ^ min X 256) ∧ Kept [] w w' := by
  have M := Mem.start w []
  have HU := hid hu
  have HYY := hid hY
  have hY2 := lt200 hY
  have hp1 := pow2_min X
  have hp2 : 2 ^ min X 256 ≠ 0 := Nat.pos_iff_ne_zero.1 (Nat.pow_pos (by decide))
  have hp3 : 2 ^ min X 256 < 256 ^ 200 := Nat.lt_of_le_of_lt hp1 (by decide)
  have HPL := hid hp3
  have HPP := hid hp2
  clear hp1 hp2 hp3
  have HNE : Hid (∀ (u : Value) (w : World), NumV w u Y → Calls Salg.prog 145 #[u] w fun e w' => e = .returned (.bool false) ∧ w' = w) := fun u w h => by
    have := isNegative_any u Y w h hY
    rwa [decide_eq_false hn] at this
  clear hn
  rcases Nat.lt_or_ge X 18446744073709551616 with hX | hX
  · have HC := hid (u64_num v X w hv hX)
    clear hv hu hY
    rcases Nat.lt_or_ge 256 X with h | h
    · have d1 : decide ((256 : Int) < (X : Int)) = true := by simp; omega
      have hm : min X 256 = 256 := by omega
      simp only [hm] at HPL HPP ⊢
      clear hm
      go_enter Salg.func152, Salg.ntmps152
      go_wp2_with fail
      refine HC.out.mono ?_
      rintro e w2 ⟨rfl, rfl⟩
      clear HC
      go_wp2_with fail
      refine (pow2_int _ (by omega) (by omega) _).mono ?_
      rintro e w3 ⟨P1, rfl, xHP1, K⟩
      have HP1 := hid xHP1
      replace HU := hid (HU.out.kept K)
      replace M := M.call K
      clear K xHP1
      rw [show (256 : Int).toNat = 256 by omega] at HP1
      go_wp2_with fail
      refine (HNE.out _ _ HU.out).mono ?_
      rintro e w7 ⟨rfl, rfl⟩
      go_wp2_with fail
      refine (divMod_num _ _ _ _ _ HU.out HP1.out hY2 HPL.out HPP.out).mono ?_
      rintro e w4 ⟨Q1, R1, rfl, xHQ1, xHR1, K⟩
      have HQ1 := hid xHQ1
      have HR1 := hid xHR1
      replace M := M.call K
      clear K xHQ1 xHR1
      clear HR1
      go_wp2_with fail
      go_ret
      exact ⟨_, rfl, HQ1.out, M.kept⟩
    · have d1 : decide ((256 : Int) < (X : Int)) = false := by simp; omega
      have hm : min X 256 = X := by omega
      simp only [hm] at HPL HPP ⊢
      clear hm
      go_enter Salg.func152, Salg.ntmps152
      go_wp2_with fail
      refine HC.out.mono ?_
      rintro e w2 ⟨rfl, rfl⟩
      clear HC
      go_wp2_with fail
      refine (pow2_int _ (by omega) (by omega) _).mono ?_
      rintro e w3 ⟨P1, rfl, xHP1, K⟩
      have HP1 := hid xHP1
      replace HU := hid (HU.out.kept K)
      replace M := M.call K
      clear K xHP1
      rw [show ((X : Int)).toNat = X by omega] at HP1
      go_wp2_with fail
      refine (HNE.out _ _ HU.out).mono ?_
      rintro e w7 ⟨rfl, rfl⟩
      go_wp2_with fail
      refine (divMod_num _ _ _ _ _ HU.out HP1.out hY2 HPL.out HPP.out).mono ?_
      rintro e w4 ⟨Q1, R1, rfl, xHQ1, xHR1, K⟩
      have HQ1 := hid xHQ1
      have HR1 := hid xHR1
      replace M := M.call K
      clear K xHQ1 xHR1
      clear HR1
      go_wp2_with fail
      go_ret
      exact ⟨_, rfl, HQ1.out, M.kept⟩
  · have HC := hid (u64_big v X w hv hX)
    clear hv hu hY
    have hm : min X 256 = 256 := by omega
    simp only [hm] at HPL HPP ⊢
    clear hm
    go_enter Salg.func152, Salg.ntmps152
    go_wp2_with fail
    refine HC.out.mono ?_
    rintro e w2 ⟨rfl, rfl⟩
    clear HC
    go_wp2_with fail
    refine (pow2_int _ (by omega) (by omega) _).mono ?_
    rintro e w3 ⟨P1, rfl, xHP1, K⟩
    have HP1 := hid xHP1
    replace HU := hid (HU.out.kept K)
    replace M := M.call K
    clear K xHP1
    rw [show (256 : Int).toNat = 256 by omega] at HP1
    go_wp2_with fail
    refine (HNE.out _ _ HU.out).mono ?_
    rintro e w7 ⟨rfl, rfl⟩
    go_wp2_with fail
    refine (divMod_num _ _ _ _ _ HU.out HP1.out hY2 HPL.out HPP.out).mono ?_
    rintro e w4 ⟨Q1, R1, rfl, xHQ1, xHR1, K⟩
    have HQ1 := hid xHQ1
    have HR1 := hid xHR1
    replace M := M.call K
    clear K xHQ1 xHR1
    clear HR1
    go_wp2_with fail
    go_ret
    exact ⟨_, rfl, HQ1.out, M.kept⟩

set_option maxHeartbeats 2000000 in
set_option maxRecDepth 100000 in
theorem shifted_sar1 (v u : Value) (X Y : Nat) (w : World) (hv : NumV w v X) (hu : NumV w u Y) (hY : Y < 2 ^ 256) (hn : 2 ^ 255 ≤ Y) :
    Calls Salg.prog 152 #[.int .u8 29, v, u] w fun e w' => ∃ r, e = .returned r ∧ NumV w' r (2 ^ 256 - 1 - (2 ^ 256 - 1 - Y) / 2 ^ min X 256) ∧ Kept [] w w' := by
  have M := Mem.start w []
  have HU := hid hu
  have HYY := hid hY
  have hY2 := lt200 hY
  have hp1 := pow2_min X
  have hp2 : 2 ^ min X 256 ≠ 0 := Nat.pos_iff_ne_zero.1 (Nat.pow_pos (by decide))
  have hp3 : 2 ^ min X 256 < 256 ^ 200 := Nat.lt_of_le_of_lt hp1 (by decide)
  have HPL := hid hp3
  have HPP := hid hp2
  clear hp1 hp2 hp3
  have HNE : Hid (∀ (u : Value) (w : World), NumV w u Y → Calls Salg.prog 145 #[u] w fun e w' => e = .returned (.bool true) ∧ w' = w) := fun u w h => by
    have := isNegative_any u Y w h hY
    rwa [decide_eq_true hn] at this
  have hN2 : 2 ^ 256 - 1 - Y < 256 ^ 200 := lt200 (Nat.lt_of_le_of_lt (Nat.sub_le _ _) (by decide))
  have HQ3 : Hid (∀ P, (2 ^ 256 - 1 - Y) / P < 2 ^ 256) := fun P => Nat.lt_of_le_of_lt (Nat.div_le_self _ _) (Nat.lt_of_le_of_lt (Nat.sub_le _ _) (by decide))
  clear hn
  rcases Nat.lt_or_ge X 18446744073709551616 with hX | hX
  · have HC := hid (u64_num v X w hv hX)
    clear hv hu hY
    rcases Nat.lt_or_ge 256 X with h | h
    · have d1 : decide ((256 : Int) < (X : Int)) = true := by simp; omega
      have hm : min X 256 = 256 := by omega
      simp only [hm] at HPL HPP ⊢
      clear hm
      go_enter Salg.func152, Salg.ntmps152
      go_wp2_with fail
      refine HC.out.mono ?_
      rintro e w2 ⟨rfl, rfl⟩
      clear HC
      go_wp2_with fail
      refine (pow2_int _ (by omega) (by omega) _).mono ?_
      rintro e w3 ⟨P1, rfl, xHP1, K⟩
      have HP1 := hid xHP1
      replace HU := hid (HU.out.kept K)
      replace M := M.call K
      clear K xHP1
      rw [show (256 : Int).toNat = 256 by omega] at HP1
      go_wp2_with fail
      refine (HNE.out _ _ HU.out).mono ?_
      rintro e w7 ⟨rfl, rfl⟩
      go_wp2_with fail
      refine (bitwise_not _ _ _ _ _ HU.out (nil_num _) HYY.out (by decide)).mono ?_
      rintro e w8 ⟨N1, rfl, xHN1, K⟩
      have HN1 := hid xHN1
      replace HP1 := hid (HP1.out.kept K)
      replace M := M.call K
      clear K xHN1
      go_wp2_with fail
      refine (divMod_num _ _ _ _ _ HN1.out HP1.out hN2 HPL.out HPP.out).mono ?_
      rintro e w4 ⟨Q1, R1, rfl, xHQ1, xHR1, K⟩
      have HQ1 := hid xHQ1
      have HR1 := hid xHR1
      replace M := M.call K
      clear K xHQ1 xHR1
      clear HR1
      go_wp2_with fail
      refine (bitwise_not _ _ _ _ _ HQ1.out (nil_num _) (HQ3.out _) (by decide)).mono ?_
      rintro e w9 ⟨N2, rfl, xHN2, K⟩
      have HN2 := hid xHN2
      replace M := M.call K
      clear K xHN2
      go_wp2_with fail
      go_ret
      exact ⟨_, rfl, HN2.out, M.kept⟩
    · have d1 : decide ((256 : Int) < (X : Int)) = false := by simp; omega
      have hm : min X 256 = X := by omega
      simp only [hm] at HPL HPP ⊢
      clear hm
      go_enter Salg.func152, Salg.ntmps152
      go_wp2_with fail
      refine HC.out.mono ?_
      rintro e w2 ⟨rfl, rfl⟩
      clear HC
      go_wp2_with fail
      refine (pow2_int _ (by omega) (by omega) _).mono ?_
      rintro e w3 ⟨P1, rfl, xHP1, K⟩
      have HP1 := hid xHP1
      replace HU := hid (HU.out.kept K)
      replace M := M.call K
      clear K xHP1
      rw [show ((X : Int)).toNat = X by omega] at HP1
      go_wp2_with fail
      refine (HNE.out _ _ HU.out).mono ?_
      rintro e w7 ⟨rfl, rfl⟩
      go_wp2_with fail
      refine (bitwise_not _ _ _ _ _ HU.out (nil_num _) HYY.out (by decide)).mono ?_
      rintro e w8 ⟨N1, rfl, xHN1, K⟩
      have HN1 := hid xHN1
      replace HP1 := hid (HP1.out.kept K)
      replace M := M.call K
      clear K xHN1
      go_wp2_with fail
      refine (divMod_num _ _ _ _ _ HN1.out HP1.out hN2 HPL.out HPP.out).mono ?_
      rintro e w4 ⟨Q1, R1, rfl, xHQ1, xHR1, K⟩
      have HQ1 := hid xHQ1
      have HR1 := hid xHR1
      replace M := M.call K
      clear K xHQ1 xHR1
      clear HR1
      go_wp2_with fail
      refine (bitwise_not _ _ _ _ _ HQ1.out (nil_num _) (HQ3.out _) (by decide)).mono ?_
      rintro e w9 ⟨N2, rfl, xHN2, K⟩
      have HN2 := hid xHN2
      replace M := M.call K
      clear K xHN2
      go_wp2_with fail
      go_ret
      exact ⟨_, rfl, HN2.out, M.kept⟩
  · have HC := hid (u64_big v X w hv hX)
    clear hv hu hY
    have hm : min X 256 = 256 := by omega
    simp only [hm] at HPL HPP ⊢
    clear hm
    go_enter Salg.func152, Salg.ntmps152
    go_wp2_with fail
    refine HC.out.mono ?_
    rintro e w2 ⟨rfl, rfl⟩
    clear HC
    go_wp2_with fail
    refine (pow2_int _ (by omega) (by omega) _).mono ?_
    rintro e w3 ⟨P1, rfl, xHP1, K⟩
    have HP1 := hid xHP1
    replace HU := hid (HU.out.kept K)
    replace M := M.call K
    clear K xHP1
    rw [show (256 : Int).toNat = 256 by omega] at HP1
    go_wp2_with fail
    refine (HNE.out _ _ HU.out).mono ?_
    rintro e w7 ⟨rfl, rfl⟩
    go_wp2_with fail
    refine (bitwise_not _ _ _ _ _ HU.out (nil_num _) HYY.out (by decide)).mono ?_
    rintro e w8 ⟨N1, rfl, xHN1, K⟩
    have HN1 := hid xHN1
    replace HP1 := hid (HP1.out.kept K)
    replace M := M.call K
    clear K xHN1
    go_wp2_with fail
    refine (divMod_num _ _ _ _ _ HN1.out HP1.out hN2 HPL.out HPP.out).mono ?_
    rintro e w4 ⟨Q1, R1, rfl, xHQ1, xHR1, K⟩
    have HQ1 := hid xHQ1
    have HR1 := hid xHR1
    replace M := M.call K
    clear K xHQ1 xHR1
    clear HR1
    go_wp2_with fail
    refine (bitwise_not _ _ _ _ _ HQ1.out (nil_num _) (HQ3.out _) (by decide)).mono ?_
    rintro e w9 ⟨N2, rfl, xHN2, K⟩
    have HN2 := hid xHN2
    replace M := M.call K
    clear K xHN2
    go_wp2_with fail
    go_ret
    exact ⟨_, rfl, HN2.out, M.kept⟩
end Go.Proofs.YgcsalGreat

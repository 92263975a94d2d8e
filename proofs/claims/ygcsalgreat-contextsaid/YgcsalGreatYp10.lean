/-
  The walk of yp.Alu, one theorem an operation.
-/
import Derived.Test.YgcsalGreatYp9
import Derived.Test.YgcsalGreatAlu12
set_option linter.unusedSimpArgs false
set_option linter.unusedVariables false
namespace Go.Own
theorem flag_lt (t : Bool) : flag t < 18446744073709551616 ^ 4 := by cases t <;> decide
theorem remN_lt {A C : Nat} (h : C < 18446744073709551616 ^ 4) : remN A C < 18446744073709551616 ^ 4 := by
  unfold remN
  split
  · decide
  · exact Nat.lt_trans (Nat.mod_lt _ (by omega)) h
theorem sextN_lt {K X : Nat} (h : X < 18446744073709551616 ^ 4) : sextN K X < 18446744073709551616 ^ 4 := by
  unfold sextN
  split
  · rename_i hk
    have hp : 2 ^ (8 * K + 8) ≤ 18446744073709551616 ^ 4 := by
      rw [show (18446744073709551616 : Nat) ^ 4 = 2 ^ 256 from by decide]
      exact Nat.pow_le_pow_right (by decide) (by omega)
    have hl : X % 2 ^ (8 * K + 8) < 2 ^ (8 * K + 8) := Nat.mod_lt _ (Nat.pow_pos (by decide))
    generalize X % 2 ^ (8 * K + 8) = L at *
    generalize 2 ^ (8 * K + 8) = P at *
    split <;> omega
  · exact h
theorem sgn_mod {t : Bool} {N : Nat} (h : N < 18446744073709551616 ^ 4) : (if t then (2 ^ 256 - N) % 2 ^ 256 else N) = sgn t N % 18446744073709551616 ^ 4 := by
  unfold sgn
  rw [show (2 : Nat) ^ 256 = 18446744073709551616 ^ 4 from by decide]
  cases t
  · simp only [Bool.false_eq_true, if_false]; rw [Nat.mod_eq_of_lt h]
  · simp only [if_true]
theorem sub_mod3 {X Y : Nat} (hY : Y < 2 ^ 256) : (X + (2 ^ 256 - Y) % 2 ^ 256) % 2 ^ 256 = (X + 18446744073709551616 ^ 4 - Y) % 18446744073709551616 ^ 4 := by
  rw [show (18446744073709551616 : Nat) ^ 4 = 2 ^ 256 from by decide]
  generalize 2 ^ 256 = M at *
  rw [Nat.add_mod_mod, Nat.add_sub_assoc (Nat.le_of_lt hY)]
theorem sgn_lt2 {X : Nat} (h : X < 2 ^ 256) : sgn (neg X) X < 2 ^ 256 := by
  unfold sgn neg
  by_cases hn : 2 ^ 255 ≤ X
  · simp only [hn, decide_true, if_true]
    have : 0 < (2 : Nat) ^ 255 := Nat.pow_pos (by decide)
    rw [show (18446744073709551616 : Nat) ^ 4 = 2 ^ 256 from by decide]
    omega
  · simp only [hn, decide_false, Bool.false_eq_true, if_false]; exact h
end Go.Own
namespace Go.Proofs.YgcsalGreat
open Go.RowKit Go.Own
theorem isNeg_any (v : Value) (N : Nat) (w : World) (hN : NumV w v N) (hb : N < 2 ^ 256) : Calls Salg.prog 145 #[v] w fun e w' => e = .returned (.bool (neg N)) ∧ w' = w := isNegative_any v N w hN hb
theorem lt4 {n : Nat} (h : n < 2 ^ 256) : n < 18446744073709551616 ^ 4 := by rw [← p256]; exact h

set_option maxHeartbeats 2000000 in
set_option maxRecDepth 100000 in
theorem alu_1 (v u t : Value) (X Y Z : Nat) (w : World) (hv : NumV w v X) (hu : NumV w u Y) (ht : NumV w t Z) (hX : X < 2 ^ 256) (hY : Y < 2 ^ 256) (hZ : Z < 2 ^ 256) :
    Calls Salg.prog 63 #[.int .u8 1, v, u, t] w fun e w' => ∃ r, e = .returned r ∧ NumV w' r ((X + Y) % 18446744073709551616 ^ 4) ∧ Kept [] w w' := by
  have M := Mem.start w []
  have HV := hid hv
  have HU := hid hu
  have HT := hid ht
  have hX2 := lt200 hX
  have hY2 := lt200 hY
  have hZ2 := lt200 hZ
  clear hv hu ht
  have HEQ : Hid (((X + Y) % 2 ^ 256) = (X + Y) % 18446744073709551616 ^ 4) := by
    show _ = _
    rw [p256]
  obtain ⟨RES, hres⟩ : ∃ R, R = (X + Y) % 18446744073709551616 ^ 4 := ⟨_, rfl⟩
  rw [← hres]
  replace HEQ := hid (HEQ.out.trans hres.symm)
  clear hres
  go_enter Salg.func63, Salg.ntmps63
  go_wp2_with fail
  refine (add_num _ _ _ _ _ HV.out HU.out hX2 hY2).mono ?_
  rintro e w2 ⟨Q1, rfl, xHQ1, K⟩
  have HQ1 := hid xHQ1
  replace M := M.call K
  clear K xHQ1
  go_wp2_with fail
  refine (wrapped_any _ _ _ HQ1.out).mono ?_
  rintro e w3 ⟨R1, rfl, xHR, K⟩
  have HR := hid xHR
  replace M := M.call K
  clear K xHR
  go_wp2_with fail
  go_ret
  exact ⟨_, rfl, by rw [← HEQ.out]; exact HR.out, M.kept⟩

set_option maxHeartbeats 2000000 in
set_option maxRecDepth 100000 in
theorem alu_2 (v u t : Value) (X Y Z : Nat) (w : World) (hv : NumV w v X) (hu : NumV w u Y) (ht : NumV w t Z) (hX : X < 2 ^ 256) (hY : Y < 2 ^ 256) (hZ : Z < 2 ^ 256) :
    Calls Salg.prog 63 #[.int .u8 2, v, u, t] w fun e w' => ∃ r, e = .returned r ∧ NumV w' r ((X * Y) % 18446744073709551616 ^ 4) ∧ Kept [] w w' := by
  have M := Mem.start w []
  have HV := hid hv
  have HU := hid hu
  have HT := hid ht
  have hX2 := lt200 hX
  have hY2 := lt200 hY
  have hZ2 := lt200 hZ
  clear hv hu ht
  have HEQ : Hid ((X * Y % 2 ^ 256) = (X * Y) % 18446744073709551616 ^ 4) := by
    show _ = _
    rw [p256]
  obtain ⟨RES, hres⟩ : ∃ R, R = (X * Y) % 18446744073709551616 ^ 4 := ⟨_, rfl⟩
  rw [← hres]
  replace HEQ := hid (HEQ.out.trans hres.symm)
  clear hres
  go_enter Salg.func63, Salg.ntmps63
  go_wp2_with fail
  refine (mul_num _ _ _ _ _ HV.out HU.out hX2 hY2).mono ?_
  rintro e w2 ⟨Q1, rfl, xHQ1, K⟩
  have HQ1 := hid xHQ1
  replace M := M.call K
  clear K xHQ1
  go_wp2_with fail
  refine (wrapped_any _ _ _ HQ1.out).mono ?_
  rintro e w3 ⟨R1, rfl, xHR, K⟩
  have HR := hid xHR
  replace M := M.call K
  clear K xHR
  go_wp2_with fail
  go_ret
  exact ⟨_, rfl, by rw [← HEQ.out]; exact HR.out, M.kept⟩

set_option maxHeartbeats 2000000 in
set_option maxRecDepth 100000 in
theorem alu_3 (v u t : Value) (X Y Z : Nat) (w : World) (hv : NumV w v X) (hu : NumV w u Y) (ht : NumV w t Z) (hX : X < 2 ^ 256) (hY : Y < 2 ^ 256) (hZ : Z < 2 ^ 256) :
    Calls Salg.prog 63 #[.int .u8 3, v, u, t] w fun e w' => ∃ r, e = .returned r ∧ NumV w' r ((X + 18446744073709551616 ^ 4 - Y) % 18446744073709551616 ^ 4) ∧ Kept [] w w' := by
  have M := Mem.start w []
  have HV := hid hv
  have HU := hid hu
  have HT := hid ht
  have hX2 := lt200 hX
  have hY2 := lt200 hY
  have hZ2 := lt200 hZ
  clear hv hu ht
  have HEQ : Hid (((X + (2 ^ 256 - Y) % 2 ^ 256) % 2 ^ 256) = (X + 18446744073709551616 ^ 4 - Y) % 18446744073709551616 ^ 4) := sub_mod3 hY
  obtain ⟨RES, hres⟩ : ∃ R, R = (X + 18446744073709551616 ^ 4 - Y) % 18446744073709551616 ^ 4 := ⟨_, rfl⟩
  rw [← hres]
  replace HEQ := hid (HEQ.out.trans hres.symm)
  clear hres
  go_enter Salg.func63, Salg.ntmps63
  go_wp2_with fail
  refine (negated_any _ _ _ HU.out (Nat.le_of_lt hY)).mono ?_
  rintro e w2 ⟨Q1, rfl, xHQ1, K⟩
  have HQ1 := hid xHQ1
  replace HV := hid (HV.out.kept K)
  replace M := M.call K
  clear K xHQ1
  go_wp2_with fail
  refine (add_num _ _ _ _ _ HV.out HQ1.out hX2 (lt200 (Nat.mod_lt _ (by decide)))).mono ?_
  rintro e w3 ⟨Q2, rfl, xHQ2, K⟩
  have HQ2 := hid xHQ2
  replace M := M.call K
  clear K xHQ2
  go_wp2_with fail
  refine (wrapped_any _ _ _ HQ2.out).mono ?_
  rintro e w4 ⟨R1, rfl, xHR, K⟩
  have HR := hid xHR
  replace M := M.call K
  clear K xHR
  go_wp2_with fail
  go_ret
  exact ⟨_, rfl, by rw [← HEQ.out]; exact HR.out, M.kept⟩

set_option maxHeartbeats 2000000 in
set_option maxRecDepth 100000 in
theorem alu_4 (v u t : Value) (X Y Z : Nat) (w : World) (hv : NumV w v X) (hu : NumV w u Y) (ht : NumV w t Z) (hX : X < 2 ^ 256) (hY : Y < 2 ^ 256) (hZ : Z < 2 ^ 256) :
    Calls Salg.prog 63 #[.int .u8 4, v, u, t] w fun e w' => ∃ r, e = .returned r ∧ NumV w' r ((X / Y) % 18446744073709551616 ^ 4) ∧ Kept [] w w' := by
  have M := Mem.start w []
  have HV := hid hv
  have HU := hid hu
  have HT := hid ht
  have hX2 := lt200 hX
  have hY2 := lt200 hY
  have hZ2 := lt200 hZ
  clear hv hu ht
  have HEQ : Hid ((X / Y) = (X / Y) % 18446744073709551616 ^ 4) := (Nat.mod_eq_of_lt (Nat.lt_of_le_of_lt (Nat.div_le_self _ _) (lt4 hX))).symm
  obtain ⟨RES, hres⟩ : ∃ R, R = (X / Y) % 18446744073709551616 ^ 4 := ⟨_, rfl⟩
  rw [← hres]
  replace HEQ := hid (HEQ.out.trans hres.symm)
  clear hres
  go_enter Salg.func63, Salg.ntmps63
  go_wp2_with fail
  refine (divMod_all _ _ _ _ _ HV.out HU.out hX2 hY2).mono ?_
  rintro e w2 ⟨Q9, R9, b9, rfl, xHQ9, xHR9, K⟩
  have HQ9 := hid xHQ9
  have HR9 := hid xHR9
  replace M := M.call K
  clear K xHQ9 xHR9
  have HR := HQ9
  go_wp2_with fail
  go_ret
  exact ⟨_, rfl, by rw [← HEQ.out]; exact HR.out, M.kept⟩

set_option maxHeartbeats 2000000 in
set_option maxRecDepth 100000 in
theorem alu_5 (v u t : Value) (X Y Z : Nat) (w : World) (hv : NumV w v X) (hu : NumV w u Y) (ht : NumV w t Z) (hX : X < 2 ^ 256) (hY : Y < 2 ^ 256) (hZ : Z < 2 ^ 256) :
    Calls Salg.prog 63 #[.int .u8 5, v, u, t] w fun e w' => ∃ r, e = .returned r ∧ NumV w' r ((sgn (neg (X) != neg (Y)) (sgn (neg (X)) (X) / sgn (neg (Y)) (Y))) % 18446744073709551616 ^ 4) ∧ Kept [] w w' := by
  have M := Mem.start w []
  have HV := hid hv
  have HU := hid hu
  have HT := hid ht
  have hX2 := lt200 hX
  have hY2 := lt200 hY
  have hZ2 := lt200 hZ
  clear hv hu ht
  have HEQ : Hid ((if (neg X != neg Y) = true then (2 ^ 256 - sgn (neg X) X / sgn (neg Y) Y) % 2 ^ 256 else sgn (neg X) X / sgn (neg Y) Y) = (sgn (neg (X) != neg (Y)) (sgn (neg (X)) (X) / sgn (neg (Y)) (Y))) % 18446744073709551616 ^ 4) := sgn_mod (lt4 (Nat.lt_of_le_of_lt (Nat.div_le_self _ _) (sgn_lt2 hX)))
  obtain ⟨RES, hres⟩ : ∃ R, R = (sgn (neg (X) != neg (Y)) (sgn (neg (X)) (X) / sgn (neg (Y)) (Y))) % 18446744073709551616 ^ 4 := ⟨_, rfl⟩
  rw [← hres]
  replace HEQ := hid (HEQ.out.trans hres.symm)
  clear hres
  go_enter Salg.func63, Salg.ntmps63
  go_wp2_with fail
  refine (magnitude_any _ _ _ HV.out hX).mono ?_
  rintro e w2 ⟨A1, rfl, xHA1, K⟩
  have HA1 := hid xHA1
  replace HV := hid (HV.out.kept K)
  replace HU := hid (HU.out.kept K)
  replace M := M.call K
  clear K xHA1
  go_wp2_with fail
  refine (magnitude_any _ _ _ HU.out hY).mono ?_
  rintro e w3 ⟨A2, rfl, xHA2, K⟩
  have HA2 := hid xHA2
  replace HV := hid (HV.out.kept K)
  replace HU := hid (HU.out.kept K)
  replace HA1 := hid (HA1.out.kept K)
  replace M := M.call K
  clear K xHA2
  go_wp2_with fail
  refine (divMod_all _ _ _ _ _ HA1.out HA2.out (lt200 (sgn_lt2 hX)) (lt200 (sgn_lt2 hY))).mono ?_
  rintro e w4 ⟨Q9, R9, b9, rfl, xHQ9, xHR9, K⟩
  have HQ9 := hid xHQ9
  have HR9 := hid xHR9
  replace HV := hid (HV.out.kept K)
  replace HU := hid (HU.out.kept K)
  replace M := M.call K
  clear K xHQ9 xHR9
  go_wp2_with fail
  refine (isNeg_any _ _ _ HV.out hX).mono ?_
  rintro e w5 ⟨rfl, rfl⟩
  go_wp2_with fail
  refine (isNeg_any _ _ _ HU.out hY).mono ?_
  rintro e w6 ⟨rfl, rfl⟩
  (try simp only [bneq])
  go_wp2_with fail
  refine (withSign_any _ _ (neg X != neg Y) _ HQ9.out (Nat.le_of_lt (Nat.lt_of_le_of_lt (Nat.div_le_self _ _) (sgn_lt2 hX)))).mono ?_
  rintro e w7 ⟨R1, rfl, xHR, K⟩
  have HR := hid xHR
  replace M := M.call K
  clear K xHR
  go_wp2_with fail
  go_ret
  exact ⟨_, rfl, by rw [← HEQ.out]; exact HR.out, M.kept⟩

set_option maxHeartbeats 2000000 in
set_option maxRecDepth 100000 in
theorem alu_6 (v u t : Value) (X Y Z : Nat) (w : World) (hv : NumV w v X) (hu : NumV w u Y) (ht : NumV w t Z) (hX : X < 2 ^ 256) (hY : Y < 2 ^ 256) (hZ : Z < 2 ^ 256) :
    Calls Salg.prog 63 #[.int .u8 6, v, u, t] w fun e w' => ∃ r, e = .returned r ∧ NumV w' r ((remN (X) (Y)) % 18446744073709551616 ^ 4) ∧ Kept [] w w' := by
  have M := Mem.start w []
  have HV := hid hv
  have HU := hid hu
  have HT := hid ht
  have hX2 := lt200 hX
  have hY2 := lt200 hY
  have hZ2 := lt200 hZ
  clear hv hu ht
  have HEQ : Hid ((remN (X) (Y)) = (remN (X) (Y)) % 18446744073709551616 ^ 4) := (Nat.mod_eq_of_lt (remN_lt (lt4 hY))).symm
  obtain ⟨RES, hres⟩ : ∃ R, R = (remN (X) (Y)) % 18446744073709551616 ^ 4 := ⟨_, rfl⟩
  rw [← hres]
  replace HEQ := hid (HEQ.out.trans hres.symm)
  clear hres
  go_enter Salg.func63, Salg.ntmps63
  go_wp2_with fail
  refine (divMod_all _ _ _ _ _ HV.out HU.out hX2 hY2).mono ?_
  rintro e w2 ⟨Q9, R9, b9, rfl, xHQ9, xHR9, K⟩
  have HQ9 := hid xHQ9
  have HR9 := hid xHR9
  replace M := M.call K
  clear K xHQ9 xHR9
  have HR := HR9
  go_wp2_with fail
  go_ret
  exact ⟨_, rfl, by rw [← HEQ.out]; exact HR.out, M.kept⟩

set_option maxHeartbeats 2000000 in
set_option maxRecDepth 100000 in
theorem alu_7 (v u t : Value) (X Y Z : Nat) (w : World) (hv : NumV w v X) (hu : NumV w u Y) (ht : NumV w t Z) (hX : X < 2 ^ 256) (hY : Y < 2 ^ 256) (hZ : Z < 2 ^ 256) :
    Calls Salg.prog 63 #[.int .u8 7, v, u, t] w fun e w' => ∃ r, e = .returned r ∧ NumV w' r ((sgn (neg (X)) (remN (sgn (neg (X)) (X)) (sgn (neg (Y)) (Y)))) % 18446744073709551616 ^ 4) ∧ Kept [] w w' := by
  have M := Mem.start w []
  have HV := hid hv
  have HU := hid hu
  have HT := hid ht
  have hX2 := lt200 hX
  have hY2 := lt200 hY
  have hZ2 := lt200 hZ
  clear hv hu ht
  have HEQ : Hid ((if neg X = true then (2 ^ 256 - remN (sgn (neg X) X) (sgn (neg Y) Y)) % 2 ^ 256 else remN (sgn (neg X) X) (sgn (neg Y) Y)) = (sgn (neg (X)) (remN (sgn (neg (X)) (X)) (sgn (neg (Y)) (Y)))) % 18446744073709551616 ^ 4) := sgn_mod (remN_lt (lt4 (sgn_lt2 hY)))
  obtain ⟨RES, hres⟩ : ∃ R, R = (sgn (neg (X)) (remN (sgn (neg (X)) (X)) (sgn (neg (Y)) (Y)))) % 18446744073709551616 ^ 4 := ⟨_, rfl⟩
  rw [← hres]
  replace HEQ := hid (HEQ.out.trans hres.symm)
  clear hres
  go_enter Salg.func63, Salg.ntmps63
  go_wp2_with fail
  refine (magnitude_any _ _ _ HV.out hX).mono ?_
  rintro e w2 ⟨A1, rfl, xHA1, K⟩
  have HA1 := hid xHA1
  replace HV := hid (HV.out.kept K)
  replace HU := hid (HU.out.kept K)
  replace M := M.call K
  clear K xHA1
  go_wp2_with fail
  refine (magnitude_any _ _ _ HU.out hY).mono ?_
  rintro e w3 ⟨A2, rfl, xHA2, K⟩
  have HA2 := hid xHA2
  replace HV := hid (HV.out.kept K)
  replace HU := hid (HU.out.kept K)
  replace HA1 := hid (HA1.out.kept K)
  replace M := M.call K
  clear K xHA2
  go_wp2_with fail
  refine (divMod_all _ _ _ _ _ HA1.out HA2.out (lt200 (sgn_lt2 hX)) (lt200 (sgn_lt2 hY))).mono ?_
  rintro e w4 ⟨Q9, R9, b9, rfl, xHQ9, xHR9, K⟩
  have HQ9 := hid xHQ9
  have HR9 := hid xHR9
  replace HV := hid (HV.out.kept K)
  replace HU := hid (HU.out.kept K)
  replace M := M.call K
  clear K xHQ9 xHR9
  go_wp2_with fail
  refine (isNeg_any _ _ _ HV.out hX).mono ?_
  rintro e w5 ⟨rfl, rfl⟩
  go_wp2_with fail
  refine (withSign_any _ _ (neg X) _ HR9.out (Nat.le_of_lt (by rw [p256]; exact remN_lt (lt4 (sgn_lt2 hY))))).mono ?_
  rintro e w7 ⟨R1, rfl, xHR, K⟩
  have HR := hid xHR
  replace M := M.call K
  clear K xHR
  go_wp2_with fail
  go_ret
  exact ⟨_, rfl, by rw [← HEQ.out]; exact HR.out, M.kept⟩

set_option maxHeartbeats 2000000 in
set_option maxRecDepth 100000 in
theorem alu_8 (v u t : Value) (X Y Z : Nat) (w : World) (hv : NumV w v X) (hu : NumV w u Y) (ht : NumV w t Z) (hX : X < 2 ^ 256) (hY : Y < 2 ^ 256) (hZ : Z < 2 ^ 256) :
    Calls Salg.prog 63 #[.int .u8 8, v, u, t] w fun e w' => ∃ r, e = .returned r ∧ NumV w' r ((remN (X + Y) (Z)) % 18446744073709551616 ^ 4) ∧ Kept [] w w' := by
  have M := Mem.start w []
  have HV := hid hv
  have HU := hid hu
  have HT := hid ht
  have hX2 := lt200 hX
  have hY2 := lt200 hY
  have hZ2 := lt200 hZ
  clear hv hu ht
  have HEQ : Hid ((remN (X + Y) (Z)) = (remN (X + Y) (Z)) % 18446744073709551616 ^ 4) := (Nat.mod_eq_of_lt (remN_lt (lt4 hZ))).symm
  obtain ⟨RES, hres⟩ : ∃ R, R = (remN (X + Y) (Z)) % 18446744073709551616 ^ 4 := ⟨_, rfl⟩
  rw [← hres]
  replace HEQ := hid (HEQ.out.trans hres.symm)
  clear hres
  go_enter Salg.func63, Salg.ntmps63
  go_wp2_with fail
  refine (add_num _ _ _ _ _ HV.out HU.out hX2 hY2).mono ?_
  rintro e w2 ⟨Q1, rfl, xHQ1, K⟩
  have HQ1 := hid xHQ1
  replace HT := hid (HT.out.kept K)
  replace M := M.call K
  clear K xHQ1
  go_wp2_with fail
  refine (divMod_all _ _ _ _ _ HQ1.out HT.out (Nat.lt_of_lt_of_le (Nat.add_lt_add hX hY) (by decide)) hZ2).mono ?_
  rintro e w3 ⟨Q9, R9, b9, rfl, xHQ9, xHR9, K⟩
  have HQ9 := hid xHQ9
  have HR9 := hid xHR9
  replace M := M.call K
  clear K xHQ9 xHR9
  have HR := HR9
  go_wp2_with fail
  go_ret
  exact ⟨_, rfl, by rw [← HEQ.out]; exact HR.out, M.kept⟩

set_option maxHeartbeats 2000000 in
set_option maxRecDepth 100000 in
theorem alu_9 (v u t : Value) (X Y Z : Nat) (w : World) (hv : NumV w v X) (hu : NumV w u Y) (ht : NumV w t Z) (hX : X < 2 ^ 256) (hY : Y < 2 ^ 256) (hZ : Z < 2 ^ 256) :
    Calls Salg.prog 63 #[.int .u8 9, v, u, t] w fun e w' => ∃ r, e = .returned r ∧ NumV w' r ((remN (X * Y) (Z)) % 18446744073709551616 ^ 4) ∧ Kept [] w w' := by
  have M := Mem.start w []
  have HV := hid hv
  have HU := hid hu
  have HT := hid ht
  have hX2 := lt200 hX
  have hY2 := lt200 hY
  have hZ2 := lt200 hZ
  clear hv hu ht
  have HEQ : Hid ((remN (X * Y) (Z)) = (remN (X * Y) (Z)) % 18446744073709551616 ^ 4) := (Nat.mod_eq_of_lt (remN_lt (lt4 hZ))).symm
  obtain ⟨RES, hres⟩ : ∃ R, R = (remN (X * Y) (Z)) % 18446744073709551616 ^ 4 := ⟨_, rfl⟩
  rw [← hres]
  replace HEQ := hid (HEQ.out.trans hres.symm)
  clear hres
  go_enter Salg.func63, Salg.ntmps63
  go_wp2_with fail
  refine (mul_num _ _ _ _ _ HV.out HU.out hX2 hY2).mono ?_
  rintro e w2 ⟨Q1, rfl, xHQ1, K⟩
  have HQ1 := hid xHQ1
  replace HT := hid (HT.out.kept K)
  replace M := M.call K
  clear K xHQ1
  go_wp2_with fail
  refine (divMod_all _ _ _ _ _ HQ1.out HT.out (Nat.lt_of_lt_of_le (Nat.mul_lt_mul'' hX hY) (by decide)) hZ2).mono ?_
  rintro e w3 ⟨Q9, R9, b9, rfl, xHQ9, xHR9, K⟩
  have HQ9 := hid xHQ9
  have HR9 := hid xHR9
  replace M := M.call K
  clear K xHQ9 xHR9
  have HR := HR9
  go_wp2_with fail
  go_ret
  exact ⟨_, rfl, by rw [← HEQ.out]; exact HR.out, M.kept⟩

set_option maxHeartbeats 2000000 in
set_option maxRecDepth 100000 in
theorem alu_10 (v u t : Value) (X Y Z : Nat) (w : World) (hv : NumV w v X) (hu : NumV w u Y) (ht : NumV w t Z) (hX : X < 2 ^ 256) (hY : Y < 2 ^ 256) (hZ : Z < 2 ^ 256) :
    Calls Salg.prog 63 #[.int .u8 10, v, u, t] w fun e w' => ∃ r, e = .returned r ∧ NumV w' r ((expN (X) (Y)) % 18446744073709551616 ^ 4) ∧ Kept [] w w' := by
  have M := Mem.start w []
  have HV := hid hv
  have HU := hid hu
  have HT := hid ht
  have hX2 := lt200 hX
  have hY2 := lt200 hY
  have hZ2 := lt200 hZ
  clear hv hu ht
  have HEQ : Hid ((X ^ Y % 2 ^ 256) = (expN (X) (Y)) % 18446744073709551616 ^ 4) := by
    show _ = _
    rw [expN, p256, Nat.mod_mod]
  obtain ⟨RES, hres⟩ : ∃ R, R = (expN (X) (Y)) % 18446744073709551616 ^ 4 := ⟨_, rfl⟩
  rw [← hres]
  replace HEQ := hid (HEQ.out.trans hres.symm)
  clear hres
  go_enter Salg.func63, Salg.ntmps63
  go_wp2_with fail
  refine (power_any _ _ _ _ _ HV.out HU.out hX hY).mono ?_
  rintro e w2 ⟨R1, rfl, xHR, K⟩
  have HR := hid xHR
  replace M := M.call K
  clear K xHR
  go_wp2_with fail
  go_ret
  exact ⟨_, rfl, by rw [← HEQ.out]; exact HR.out, M.kept⟩

set_option maxHeartbeats 2000000 in
set_option maxRecDepth 100000 in
theorem alu_11 (v u t : Value) (X Y Z : Nat) (w : World) (hv : NumV w v X) (hu : NumV w u Y) (ht : NumV w t Z) (hX : X < 2 ^ 256) (hY : Y < 2 ^ 256) (hZ : Z < 2 ^ 256) :
    Calls Salg.prog 63 #[.int .u8 11, v, u, t] w fun e w' => ∃ r, e = .returned r ∧ NumV w' r ((sextN (X) (Y)) % 18446744073709551616 ^ 4) ∧ Kept [] w w' := by
  have M := Mem.start w []
  have HV := hid hv
  have HU := hid hu
  have HT := hid ht
  have hX2 := lt200 hX
  have hY2 := lt200 hY
  have hZ2 := lt200 hZ
  clear hv hu ht
  have HEQ : Hid ((sextN (X) (Y)) = (sextN (X) (Y)) % 18446744073709551616 ^ 4) := (Nat.mod_eq_of_lt (sextN_lt (lt4 hY))).symm
  obtain ⟨RES, hres⟩ : ∃ R, R = (sextN (X) (Y)) % 18446744073709551616 ^ 4 := ⟨_, rfl⟩
  rw [← hres]
  replace HEQ := hid (HEQ.out.trans hres.symm)
  clear hres
  go_enter Salg.func63, Salg.ntmps63
  go_wp2_with fail
  refine (signExtended_any _ _ _ _ _ HV.out HU.out hY).mono ?_
  rintro e w2 ⟨R1, rfl, xHR, K⟩
  have HR := hid xHR
  replace M := M.call K
  clear K xHR
  go_wp2_with fail
  go_ret
  exact ⟨_, rfl, by rw [← HEQ.out]; exact HR.out, M.kept⟩

set_option maxHeartbeats 2000000 in
set_option maxRecDepth 100000 in
theorem alu_16 (v u t : Value) (X Y Z : Nat) (w : World) (hv : NumV w v X) (hu : NumV w u Y) (ht : NumV w t Z) (hX : X < 2 ^ 256) (hY : Y < 2 ^ 256) (hZ : Z < 2 ^ 256) :
    Calls Salg.prog 63 #[.int .u8 16, v, u, t] w fun e w' => ∃ r, e = .returned r ∧ NumV w' r ((flag (decide (X < Y))) % 18446744073709551616 ^ 4) ∧ Kept [] w w' := by
  have M := Mem.start w []
  have HV := hid hv
  have HU := hid hu
  have HT := hid ht
  have hX2 := lt200 hX
  have hY2 := lt200 hY
  have hZ2 := lt200 hZ
  clear hv hu ht
  have HEQ : Hid ((flag (decide (X < Y))) = (flag (decide (X < Y))) % 18446744073709551616 ^ 4) := (Nat.mod_eq_of_lt (flag_lt _)).symm
  obtain ⟨RES, hres⟩ : ∃ R, R = (flag (decide (X < Y))) % 18446744073709551616 ^ 4 := ⟨_, rfl⟩
  rw [← hres]
  replace HEQ := hid (HEQ.out.trans hres.symm)
  clear hres
  go_enter Salg.func63, Salg.ntmps63
  go_wp2_with fail
  refine (cmp_num _ _ _ _ _ HV.out HU.out).mono ?_
  rintro e w2 ⟨rfl, K⟩
  replace M := M.call K
  clear K
  have HCP : Hid ((decide (cmpI X Y < 0)) = decide (X < Y)) := by
    show _ = _
    rw [Bool.eq_iff_iff]
    simp only [decide_eq_true_eq, beq_iff_eq, cmpI_neg, cmpI_pos, cmpI_zero]
  generalize cmpI X Y = cc at *
  go_wp2_with fail
  rw [HCP.out]
  refine (truth_any (decide (X < Y)) _).mono ?_
  rintro e w5 ⟨R1, rfl, xHR, K⟩
  have HR := hid xHR
  replace M := M.call K
  clear K xHR
  go_wp2_with fail
  go_ret
  exact ⟨_, rfl, by rw [← HEQ.out]; exact HR.out, M.kept⟩

set_option maxHeartbeats 2000000 in
set_option maxRecDepth 100000 in
theorem alu_17 (v u t : Value) (X Y Z : Nat) (w : World) (hv : NumV w v X) (hu : NumV w u Y) (ht : NumV w t Z) (hX : X < 2 ^ 256) (hY : Y < 2 ^ 256) (hZ : Z < 2 ^ 256) :
    Calls Salg.prog 63 #[.int .u8 17, v, u, t] w fun e w' => ∃ r, e = .returned r ∧ NumV w' r ((flag (decide (Y < X))) % 18446744073709551616 ^ 4) ∧ Kept [] w w' := by
  have M := Mem.start w []
  have HV := hid hv
  have HU := hid hu
  have HT := hid ht
  have hX2 := lt200 hX
  have hY2 := lt200 hY
  have hZ2 := lt200 hZ
  clear hv hu ht
  have HEQ : Hid ((flag (decide (Y < X))) = (flag (decide (Y < X))) % 18446744073709551616 ^ 4) := (Nat.mod_eq_of_lt (flag_lt _)).symm
  obtain ⟨RES, hres⟩ : ∃ R, R = (flag (decide (Y < X))) % 18446744073709551616 ^ 4 := ⟨_, rfl⟩
  rw [← hres]
  replace HEQ := hid (HEQ.out.trans hres.symm)
  clear hres
  go_enter Salg.func63, Salg.ntmps63
  go_wp2_with fail
  refine (cmp_num _ _ _ _ _ HV.out HU.out).mono ?_
  rintro e w2 ⟨rfl, K⟩
  replace M := M.call K
  clear K
  have HCP : Hid ((decide (0 < cmpI X Y)) = decide (Y < X)) := by
    show _ = _
    rw [Bool.eq_iff_iff]
    simp only [decide_eq_true_eq, beq_iff_eq, cmpI_neg, cmpI_pos, cmpI_zero]
  generalize cmpI X Y = cc at *
  go_wp2_with fail
  rw [HCP.out]
  refine (truth_any (decide (Y < X)) _).mono ?_
  rintro e w5 ⟨R1, rfl, xHR, K⟩
  have HR := hid xHR
  replace M := M.call K
  clear K xHR
  go_wp2_with fail
  go_ret
  exact ⟨_, rfl, by rw [← HEQ.out]; exact HR.out, M.kept⟩

set_option maxHeartbeats 2000000 in
set_option maxRecDepth 100000 in
theorem alu_18 (v u t : Value) (X Y Z : Nat) (w : World) (hv : NumV w v X) (hu : NumV w u Y) (ht : NumV w t Z) (hX : X < 2 ^ 256) (hY : Y < 2 ^ 256) (hZ : Z < 2 ^ 256) :
    Calls Salg.prog 63 #[.int .u8 18, v, u, t] w fun e w' => ∃ r, e = .returned r ∧ NumV w' r ((flag (slt (X) (Y))) % 18446744073709551616 ^ 4) ∧ Kept [] w w' := by
  have M := Mem.start w []
  have HV := hid hv
  have HU := hid hu
  have HT := hid ht
  have hX2 := lt200 hX
  have hY2 := lt200 hY
  have hZ2 := lt200 hZ
  clear hv hu ht
  have HEQ : Hid ((flag (slt (X) (Y))) = (flag (slt (X) (Y))) % 18446744073709551616 ^ 4) := (Nat.mod_eq_of_lt (flag_lt _)).symm
  obtain ⟨RES, hres⟩ : ∃ R, R = (flag (slt (X) (Y))) % 18446744073709551616 ^ 4 := ⟨_, rfl⟩
  rw [← hres]
  replace HEQ := hid (HEQ.out.trans hres.symm)
  clear hres
  go_enter Salg.func63, Salg.ntmps63
  go_wp2_with fail
  refine (signedBelow_any _ _ _ _ _ HV.out HU.out hX hY).mono ?_
  rintro e w2 ⟨rfl, K⟩
  replace M := M.call K
  clear K
  generalize hsl : slt X Y = sl
  have HSL := hid hsl
  clear hsl
  go_wp2_with fail
  refine (truth_any (sl) _).mono ?_
  rintro e w5 ⟨R1, rfl, xHR, K⟩
  have HR := hid xHR
  replace M := M.call K
  clear K xHR
  rw [← HSL.out] at HR
  go_wp2_with fail
  go_ret
  exact ⟨_, rfl, by rw [← HEQ.out]; exact HR.out, M.kept⟩

set_option maxHeartbeats 2000000 in
set_option maxRecDepth 100000 in
theorem alu_19 (v u t : Value) (X Y Z : Nat) (w : World) (hv : NumV w v X) (hu : NumV w u Y) (ht : NumV w t Z) (hX : X < 2 ^ 256) (hY : Y < 2 ^ 256) (hZ : Z < 2 ^ 256) :
    Calls Salg.prog 63 #[.int .u8 19, v, u, t] w fun e w' => ∃ r, e = .returned r ∧ NumV w' r ((flag (slt (Y) (X))) % 18446744073709551616 ^ 4) ∧ Kept [] w w' := by
  have M := Mem.start w []
  have HV := hid hv
  have HU := hid hu
  have HT := hid ht
  have hX2 := lt200 hX
  have hY2 := lt200 hY
  have hZ2 := lt200 hZ
  clear hv hu ht
  have HEQ : Hid ((flag (slt (Y) (X))) = (flag (slt (Y) (X))) % 18446744073709551616 ^ 4) := (Nat.mod_eq_of_lt (flag_lt _)).symm
  obtain ⟨RES, hres⟩ : ∃ R, R = (flag (slt (Y) (X))) % 18446744073709551616 ^ 4 := ⟨_, rfl⟩
  rw [← hres]
  replace HEQ := hid (HEQ.out.trans hres.symm)
  clear hres
  go_enter Salg.func63, Salg.ntmps63
  go_wp2_with fail
  refine (signedBelow_any _ _ _ _ _ HU.out HV.out hY hX).mono ?_
  rintro e w2 ⟨rfl, K⟩
  replace M := M.call K
  clear K
  generalize hsl : slt Y X = sl
  have HSL := hid hsl
  clear hsl
  go_wp2_with fail
  refine (truth_any (sl) _).mono ?_
  rintro e w5 ⟨R1, rfl, xHR, K⟩
  have HR := hid xHR
  replace M := M.call K
  clear K xHR
  rw [← HSL.out] at HR
  go_wp2_with fail
  go_ret
  exact ⟨_, rfl, by rw [← HEQ.out]; exact HR.out, M.kept⟩

set_option maxHeartbeats 2000000 in
set_option maxRecDepth 100000 in
theorem alu_20 (v u t : Value) (X Y Z : Nat) (w : World) (hv : NumV w v X) (hu : NumV w u Y) (ht : NumV w t Z) (hX : X < 2 ^ 256) (hY : Y < 2 ^ 256) (hZ : Z < 2 ^ 256) :
    Calls Salg.prog 63 #[.int .u8 20, v, u, t] w fun e w' => ∃ r, e = .returned r ∧ NumV w' r ((flag (decide (X = Y))) % 18446744073709551616 ^ 4) ∧ Kept [] w w' := by
  have M := Mem.start w []
  have HV := hid hv
  have HU := hid hu
  have HT := hid ht
  have hX2 := lt200 hX
  have hY2 := lt200 hY
  have hZ2 := lt200 hZ
  clear hv hu ht
  have HEQ : Hid ((flag (decide (X = Y))) = (flag (decide (X = Y))) % 18446744073709551616 ^ 4) := (Nat.mod_eq_of_lt (flag_lt _)).symm
  obtain ⟨RES, hres⟩ : ∃ R, R = (flag (decide (X = Y))) % 18446744073709551616 ^ 4 := ⟨_, rfl⟩
  rw [← hres]
  replace HEQ := hid (HEQ.out.trans hres.symm)
  clear hres
  go_enter Salg.func63, Salg.ntmps63
  go_wp2_with fail
  refine (cmp_num _ _ _ _ _ HV.out HU.out).mono ?_
  rintro e w2 ⟨rfl, K⟩
  replace M := M.call K
  clear K
  have HCP : Hid ((cmpI X Y == 0) = decide (X = Y)) := by
    show _ = _
    rw [Bool.eq_iff_iff]
    simp only [decide_eq_true_eq, beq_iff_eq, cmpI_neg, cmpI_pos, cmpI_zero]
  generalize cmpI X Y = cc at *
  go_wp2_with fail
  rw [HCP.out]
  refine (truth_any (decide (X = Y)) _).mono ?_
  rintro e w5 ⟨R1, rfl, xHR, K⟩
  have HR := hid xHR
  replace M := M.call K
  clear K xHR
  go_wp2_with fail
  go_ret
  exact ⟨_, rfl, by rw [← HEQ.out]; exact HR.out, M.kept⟩

set_option maxHeartbeats 2000000 in
set_option maxRecDepth 100000 in
theorem alu_21 (v u t : Value) (X Y Z : Nat) (w : World) (hv : NumV w v X) (hu : NumV w u Y) (ht : NumV w t Z) (hX : X < 2 ^ 256) (hY : Y < 2 ^ 256) (hZ : Z < 2 ^ 256) :
    Calls Salg.prog 63 #[.int .u8 21, v, u, t] w fun e w' => ∃ r, e = .returned r ∧ NumV w' r ((flag (decide (X = 0))) % 18446744073709551616 ^ 4) ∧ Kept [] w w' := by
  have M := Mem.start w []
  have HV := hid hv
  have HU := hid hu
  have HT := hid ht
  have hX2 := lt200 hX
  have hY2 := lt200 hY
  have hZ2 := lt200 hZ
  clear hv hu ht
  have HEQ : Hid ((flag (decide (X = 0))) = (flag (decide (X = 0))) % 18446744073709551616 ^ 4) := (Nat.mod_eq_of_lt (flag_lt _)).symm
  obtain ⟨RES, hres⟩ : ∃ R, R = (flag (decide (X = 0))) % 18446744073709551616 ^ 4 := ⟨_, rfl⟩
  rw [← hres]
  replace HEQ := hid (HEQ.out.trans hres.symm)
  clear hres
  go_enter Salg.func63, Salg.ntmps63
  go_wp2_with fail
  refine (cmp_num _ _ _ _ _ HV.out (nil_num _)).mono ?_
  rintro e w2 ⟨rfl, K⟩
  replace M := M.call K
  clear K
  have HCP : Hid ((cmpI X 0 == 0) = decide (X = 0)) := by
    show _ = _
    rw [Bool.eq_iff_iff]
    simp only [decide_eq_true_eq, beq_iff_eq, cmpI_neg, cmpI_pos, cmpI_zero]
  generalize cmpI X 0 = cc at *
  go_wp2_with fail
  rw [HCP.out]
  refine (truth_any (decide (X = 0)) _).mono ?_
  rintro e w5 ⟨R1, rfl, xHR, K⟩
  have HR := hid xHR
  replace M := M.call K
  clear K xHR
  go_wp2_with fail
  go_ret
  exact ⟨_, rfl, by rw [← HEQ.out]; exact HR.out, M.kept⟩

set_option maxHeartbeats 2000000 in
set_option maxRecDepth 100000 in
theorem alu_22 (v u t : Value) (X Y Z : Nat) (w : World) (hv : NumV w v X) (hu : NumV w u Y) (ht : NumV w t Z) (hX : X < 2 ^ 256) (hY : Y < 2 ^ 256) (hZ : Z < 2 ^ 256) :
    Calls Salg.prog 63 #[.int .u8 22, v, u, t] w fun e w' => ∃ r, e = .returned r ∧ NumV w' r ((X &&& Y) % 18446744073709551616 ^ 4) ∧ Kept [] w w' := by
  have M := Mem.start w []
  have HV := hid hv
  have HU := hid hu
  have HT := hid ht
  have hX2 := lt200 hX
  have hY2 := lt200 hY
  have hZ2 := lt200 hZ
  clear hv hu ht
  have HEQ : Hid ((X &&& Y) = (X &&& Y) % 18446744073709551616 ^ 4) := (Nat.mod_eq_of_lt (by rw [← p256]; exact Nat.and_lt_two_pow _ hY)).symm
  obtain ⟨RES, hres⟩ : ∃ R, R = (X &&& Y) % 18446744073709551616 ^ 4 := ⟨_, rfl⟩
  rw [← hres]
  replace HEQ := hid (HEQ.out.trans hres.symm)
  clear hres
  go_enter Salg.func63, Salg.ntmps63
  go_wp2_with fail
  refine (bitwise_and _ _ _ _ _ HV.out HU.out hX hY).mono ?_
  rintro e w2 ⟨R1, rfl, xHR, K⟩
  have HR := hid xHR
  replace M := M.call K
  clear K xHR
  go_wp2_with fail
  go_ret
  exact ⟨_, rfl, by rw [← HEQ.out]; exact HR.out, M.kept⟩

set_option maxHeartbeats 2000000 in
set_option maxRecDepth 100000 in
theorem alu_23 (v u t : Value) (X Y Z : Nat) (w : World) (hv : NumV w v X) (hu : NumV w u Y) (ht : NumV w t Z) (hX : X < 2 ^ 256) (hY : Y < 2 ^ 256) (hZ : Z < 2 ^ 256) :
    Calls Salg.prog 63 #[.int .u8 23, v, u, t] w fun e w' => ∃ r, e = .returned r ∧ NumV w' r ((X ||| Y) % 18446744073709551616 ^ 4) ∧ Kept [] w w' := by
  have M := Mem.start w []
  have HV := hid hv
  have HU := hid hu
  have HT := hid ht
  have hX2 := lt200 hX
  have hY2 := lt200 hY
  have hZ2 := lt200 hZ
  clear hv hu ht
  have HEQ : Hid ((X ||| Y) = (X ||| Y) % 18446744073709551616 ^ 4) := (Nat.mod_eq_of_lt (by rw [← p256]; exact Nat.or_lt_two_pow hX hY)).symm
  obtain ⟨RES, hres⟩ : ∃ R, R = (X ||| Y) % 18446744073709551616 ^ 4 := ⟨_, rfl⟩
  rw [← hres]
  replace HEQ := hid (HEQ.out.trans hres.symm)
  clear hres
  go_enter Salg.func63, Salg.ntmps63
  go_wp2_with fail
  refine (bitwise_or _ _ _ _ _ HV.out HU.out hX hY).mono ?_
  rintro e w2 ⟨R1, rfl, xHR, K⟩
  have HR := hid xHR
  replace M := M.call K
  clear K xHR
  go_wp2_with fail
  go_ret
  exact ⟨_, rfl, by rw [← HEQ.out]; exact HR.out, M.kept⟩

set_option maxHeartbeats 2000000 in
set_option maxRecDepth 100000 in
theorem alu_24 (v u t : Value) (X Y Z : Nat) (w : World) (hv : NumV w v X) (hu : NumV w u Y) (ht : NumV w t Z) (hX : X < 2 ^ 256) (hY : Y < 2 ^ 256) (hZ : Z < 2 ^ 256) :
    Calls Salg.prog 63 #[.int .u8 24, v, u, t] w fun e w' => ∃ r, e = .returned r ∧ NumV w' r ((X ^^^ Y) % 18446744073709551616 ^ 4) ∧ Kept [] w w' := by
  have M := Mem.start w []
  have HV := hid hv
  have HU := hid hu
  have HT := hid ht
  have hX2 := lt200 hX
  have hY2 := lt200 hY
  have hZ2 := lt200 hZ
  clear hv hu ht
  have HEQ : Hid ((X ^^^ Y) = (X ^^^ Y) % 18446744073709551616 ^ 4) := (Nat.mod_eq_of_lt (by rw [← p256]; exact Nat.xor_lt_two_pow hX hY)).symm
  obtain ⟨RES, hres⟩ : ∃ R, R = (X ^^^ Y) % 18446744073709551616 ^ 4 := ⟨_, rfl⟩
  rw [← hres]
  replace HEQ := hid (HEQ.out.trans hres.symm)
  clear hres
  go_enter Salg.func63, Salg.ntmps63
  go_wp2_with fail
  refine (bitwise_xor _ _ _ _ _ HV.out HU.out hX hY).mono ?_
  rintro e w2 ⟨R1, rfl, xHR, K⟩
  have HR := hid xHR
  replace M := M.call K
  clear K xHR
  go_wp2_with fail
  go_ret
  exact ⟨_, rfl, by rw [← HEQ.out]; exact HR.out, M.kept⟩

set_option maxHeartbeats 2000000 in
set_option maxRecDepth 100000 in
theorem alu_25 (v u t : Value) (X Y Z : Nat) (w : World) (hv : NumV w v X) (hu : NumV w u Y) (ht : NumV w t Z) (hX : X < 2 ^ 256) (hY : Y < 2 ^ 256) (hZ : Z < 2 ^ 256) :
    Calls Salg.prog 63 #[.int .u8 25, v, u, t] w fun e w' => ∃ r, e = .returned r ∧ NumV w' r ((18446744073709551616 ^ 4 - 1 - X) % 18446744073709551616 ^ 4) ∧ Kept [] w w' := by
  have M := Mem.start w []
  have HV := hid hv
  have HU := hid hu
  have HT := hid ht
  have hX2 := lt200 hX
  have hY2 := lt200 hY
  have hZ2 := lt200 hZ
  clear hv hu ht
  have HEQ : Hid ((2 ^ 256 - 1 - X) = (18446744073709551616 ^ 4 - 1 - X) % 18446744073709551616 ^ 4) := by
    show _ = _
    rw [p256, Nat.mod_eq_of_lt (Nat.lt_of_le_of_lt (Nat.sub_le _ _) (by decide))]
  obtain ⟨RES, hres⟩ : ∃ R, R = (18446744073709551616 ^ 4 - 1 - X) % 18446744073709551616 ^ 4 := ⟨_, rfl⟩
  rw [← hres]
  replace HEQ := hid (HEQ.out.trans hres.symm)
  clear hres
  go_enter Salg.func63, Salg.ntmps63
  go_wp2_with fail
  refine (bitwise_not _ _ _ _ _ HV.out HU.out hX hY).mono ?_
  rintro e w2 ⟨R1, rfl, xHR, K⟩
  have HR := hid xHR
  replace M := M.call K
  clear K xHR
  go_wp2_with fail
  go_ret
  exact ⟨_, rfl, by rw [← HEQ.out]; exact HR.out, M.kept⟩

set_option maxHeartbeats 2000000 in
set_option maxRecDepth 100000 in
theorem alu_26 (v u t : Value) (X Y Z : Nat) (w : World) (hv : NumV w v X) (hu : NumV w u Y) (ht : NumV w t Z) (hX : X < 2 ^ 256) (hY : Y < 2 ^ 256) (hZ : Z < 2 ^ 256) :
    Calls Salg.prog 63 #[.int .u8 26, v, u, t] w fun e w' => ∃ r, e = .returned r ∧ NumV w' r ((byteN (X) (Y)) % 18446744073709551616 ^ 4) ∧ Kept [] w w' := by
  have M := Mem.start w []
  have HV := hid hv
  have HU := hid hu
  have HT := hid ht
  have hX2 := lt200 hX
  have hY2 := lt200 hY
  have hZ2 := lt200 hZ
  clear hv hu ht
  have HEQ : Hid ((byteN (X) (Y)) = (byteN (X) (Y)) % 18446744073709551616 ^ 4) := (Nat.mod_eq_of_lt (by unfold byteN; split; exact Nat.lt_of_lt_of_le (Nat.mod_lt _ (by decide)) (by decide); decide)).symm
  obtain ⟨RES, hres⟩ : ∃ R, R = (byteN (X) (Y)) % 18446744073709551616 ^ 4 := ⟨_, rfl⟩
  rw [← hres]
  replace HEQ := hid (HEQ.out.trans hres.symm)
  clear hres
  go_enter Salg.func63, Salg.ntmps63
  go_wp2_with fail
  refine (pickedByte_any _ _ _ _ _ HV.out HU.out hY).mono ?_
  rintro e w2 ⟨R1, rfl, xHR, K⟩
  have HR := hid xHR
  replace M := M.call K
  clear K xHR
  go_wp2_with fail
  go_ret
  exact ⟨_, rfl, by rw [← HEQ.out]; exact HR.out, M.kept⟩

set_option maxHeartbeats 2000000 in
set_option maxRecDepth 100000 in
theorem alu_27 (v u t : Value) (X Y Z : Nat) (w : World) (hv : NumV w v X) (hu : NumV w u Y) (ht : NumV w t Z) (hX : X < 2 ^ 256) (hY : Y < 2 ^ 256) (hZ : Z < 2 ^ 256) :
    Calls Salg.prog 63 #[.int .u8 27, v, u, t] w fun e w' => ∃ r, e = .returned r ∧ NumV w' r ((shlN (X) (Y)) % 18446744073709551616 ^ 4) ∧ Kept [] w w' := by
  have M := Mem.start w []
  have HV := hid hv
  have HU := hid hu
  have HT := hid ht
  have hX2 := lt200 hX
  have hY2 := lt200 hY
  have hZ2 := lt200 hZ
  clear hv hu ht
  have HEQ : Hid ((Y * 2 ^ min X 256 % 2 ^ 256) = (shlN (X) (Y)) % 18446744073709551616 ^ 4) := by
    show _ = _
    rw [shlN, p256]
  obtain ⟨RES, hres⟩ : ∃ R, R = (shlN (X) (Y)) % 18446744073709551616 ^ 4 := ⟨_, rfl⟩
  rw [← hres]
  replace HEQ := hid (HEQ.out.trans hres.symm)
  clear hres
  go_enter Salg.func63, Salg.ntmps63
  go_wp2_with fail
  refine (shifted_shl _ _ _ _ _ HV.out HU.out hY).mono ?_
  rintro e w2 ⟨R1, rfl, xHR, K⟩
  have HR := hid xHR
  replace M := M.call K
  clear K xHR
  go_wp2_with fail
  go_ret
  exact ⟨_, rfl, by rw [← HEQ.out]; exact HR.out, M.kept⟩

set_option maxHeartbeats 2000000 in
set_option maxRecDepth 100000 in
theorem alu_28 (v u t : Value) (X Y Z : Nat) (w : World) (hv : NumV w v X) (hu : NumV w u Y) (ht : NumV w t Z) (hX : X < 2 ^ 256) (hY : Y < 2 ^ 256) (hZ : Z < 2 ^ 256) :
    Calls Salg.prog 63 #[.int .u8 28, v, u, t] w fun e w' => ∃ r, e = .returned r ∧ NumV w' r ((shrN (X) (Y)) % 18446744073709551616 ^ 4) ∧ Kept [] w w' := by
  have M := Mem.start w []
  have HV := hid hv
  have HU := hid hu
  have HT := hid ht
  have hX2 := lt200 hX
  have hY2 := lt200 hY
  have hZ2 := lt200 hZ
  clear hv hu ht
  have HEQ : Hid ((Y / 2 ^ min X 256) = (shrN (X) (Y)) % 18446744073709551616 ^ 4) := (Nat.mod_eq_of_lt (Nat.lt_of_le_of_lt (Nat.div_le_self _ _) (lt4 hY))).symm
  obtain ⟨RES, hres⟩ : ∃ R, R = (shrN (X) (Y)) % 18446744073709551616 ^ 4 := ⟨_, rfl⟩
  rw [← hres]
  replace HEQ := hid (HEQ.out.trans hres.symm)
  clear hres
  go_enter Salg.func63, Salg.ntmps63
  go_wp2_with fail
  refine (shifted_shr _ _ _ _ _ HV.out HU.out hY).mono ?_
  rintro e w2 ⟨R1, rfl, xHR, K⟩
  have HR := hid xHR
  replace M := M.call K
  clear K xHR
  go_wp2_with fail
  go_ret
  exact ⟨_, rfl, by rw [← HEQ.out]; exact HR.out, M.kept⟩

set_option maxHeartbeats 2000000 in
set_option maxRecDepth 100000 in
theorem alu_29a (v u t : Value) (X Y Z : Nat) (w : World) (hv : NumV w v X) (hu : NumV w u Y) (ht : NumV w t Z) (hX : X < 2 ^ 256) (hY : Y < 2 ^ 256) (hZ : Z < 2 ^ 256) (hn : ¬ 2 ^ 255 ≤ Y) :
    Calls Salg.prog 63 #[.int .u8 29, v, u, t] w fun e w' => ∃ r, e = .returned r ∧ NumV w' r ((sarN (X) (Y)) % 18446744073709551616 ^ 4) ∧ Kept [] w w' := by
  have M := Mem.start w []
  have HV := hid hv
  have HU := hid hu
  have HT := hid ht
  have hX2 := lt200 hX
  have hY2 := lt200 hY
  have hZ2 := lt200 hZ
  clear hv hu ht
  have HEQ : Hid ((Y / 2 ^ min X 256) = (sarN (X) (Y)) % 18446744073709551616 ^ 4) := by
    show _ = _
    rw [sarN, neg, decide_eq_false hn, if_neg (by simp), Nat.mod_eq_of_lt (Nat.lt_of_le_of_lt (Nat.div_le_self _ _) (lt4 hY))]
  obtain ⟨RES, hres⟩ : ∃ R, R = (sarN (X) (Y)) % 18446744073709551616 ^ 4 := ⟨_, rfl⟩
  rw [← hres]
  replace HEQ := hid (HEQ.out.trans hres.symm)
  clear hres
  go_enter Salg.func63, Salg.ntmps63
  go_wp2_with fail
  refine (shifted_sar0 _ _ _ _ _ HV.out HU.out hY hn).mono ?_
  rintro e w2 ⟨R1, rfl, xHR, K⟩
  have HR := hid xHR
  replace M := M.call K
  clear K xHR
  go_wp2_with fail
  go_ret
  exact ⟨_, rfl, by rw [← HEQ.out]; exact HR.out, M.kept⟩

set_option maxHeartbeats 2000000 in
set_option maxRecDepth 100000 in
theorem alu_29b (v u t : Value) (X Y Z : Nat) (w : World) (hv : NumV w v X) (hu : NumV w u Y) (ht : NumV w t Z) (hX : X < 2 ^ 256) (hY : Y < 2 ^ 256) (hZ : Z < 2 ^ 256) (hn : 2 ^ 255 ≤ Y) :
    Calls Salg.prog 63 #[.int .u8 29, v, u, t] w fun e w' => ∃ r, e = .returned r ∧ NumV w' r ((sarN (X) (Y)) % 18446744073709551616 ^ 4) ∧ Kept [] w w' := by
  have M := Mem.start w []
  have HV := hid hv
  have HU := hid hu
  have HT := hid ht
  have hX2 := lt200 hX
  have hY2 := lt200 hY
  have hZ2 := lt200 hZ
  clear hv hu ht
  have HEQ : Hid ((2 ^ 256 - 1 - (2 ^ 256 - 1 - Y) / 2 ^ min X 256) = (sarN (X) (Y)) % 18446744073709551616 ^ 4) := by
    show _ = _
    rw [sarN, neg, decide_eq_true hn, if_pos rfl, p256, Nat.mod_eq_of_lt (Nat.lt_of_le_of_lt (Nat.sub_le _ _) (by decide))]
  obtain ⟨RES, hres⟩ : ∃ R, R = (sarN (X) (Y)) % 18446744073709551616 ^ 4 := ⟨_, rfl⟩
  rw [← hres]
  replace HEQ := hid (HEQ.out.trans hres.symm)
  clear hres
  go_enter Salg.func63, Salg.ntmps63
  go_wp2_with fail
  refine (shifted_sar1 _ _ _ _ _ HV.out HU.out hY hn).mono ?_
  rintro e w2 ⟨R1, rfl, xHR, K⟩
  have HR := hid xHR
  replace M := M.call K
  clear K xHR
  go_wp2_with fail
  go_ret
  exact ⟨_, rfl, by rw [← HEQ.out]; exact HR.out, M.kept⟩

set_option maxHeartbeats 2000000 in
set_option maxRecDepth 100000 in
theorem alu_none (o : Nat) (v u t : Value) (w : World) (ho : isOp o = false) (ho2 : o < 256) :
    Calls Salg.prog 63 #[.int .u8 o, v, u, t] w fun e w' => e = .returned (.slice none 0 0) ∧ w' = w := by
  simp only [isOp, Bool.or_eq_false_iff, Bool.and_eq_false_iff, decide_eq_false_iff_not] at ho
  have d1 : ((o : Int) == 1) = false := by rw [beq_eq_false_iff_ne]; omega
  have d2 : ((o : Int) == 2) = false := by rw [beq_eq_false_iff_ne]; omega
  have d3 : ((o : Int) == 3) = false := by rw [beq_eq_false_iff_ne]; omega
  have d4 : ((o : Int) == 4) = false := by rw [beq_eq_false_iff_ne]; omega
  have d5 : ((o : Int) == 5) = false := by rw [beq_eq_false_iff_ne]; omega
  have d6 : ((o : Int) == 6) = false := by rw [beq_eq_false_iff_ne]; omega
  have d7 : ((o : Int) == 7) = false := by rw [beq_eq_false_iff_ne]; omega
  have d8 : ((o : Int) == 8) = false := by rw [beq_eq_false_iff_ne]; omega
  have d9 : ((o : Int) == 9) = false := by rw [beq_eq_false_iff_ne]; omega
  have d10 : ((o : Int) == 10) = false := by rw [beq_eq_false_iff_ne]; omega
  have d11 : ((o : Int) == 11) = false := by rw [beq_eq_false_iff_ne]; omega
  have d16 : ((o : Int) == 16) = false := by rw [beq_eq_false_iff_ne]; omega
  have d17 : ((o : Int) == 17) = false := by rw [beq_eq_false_iff_ne]; omega
  have d18 : ((o : Int) == 18) = false := by rw [beq_eq_false_iff_ne]; omega
  have d19 : ((o : Int) == 19) = false := by rw [beq_eq_false_iff_ne]; omega
  have d20 : ((o : Int) == 20) = false := by rw [beq_eq_false_iff_ne]; omega
  have d21 : ((o : Int) == 21) = false := by rw [beq_eq_false_iff_ne]; omega
  have d22 : ((o : Int) == 22) = false := by rw [beq_eq_false_iff_ne]; omega
  have d23 : ((o : Int) == 23) = false := by rw [beq_eq_false_iff_ne]; omega
  have d24 : ((o : Int) == 24) = false := by rw [beq_eq_false_iff_ne]; omega
  have d25 : ((o : Int) == 25) = false := by rw [beq_eq_false_iff_ne]; omega
  have d26 : ((o : Int) == 26) = false := by rw [beq_eq_false_iff_ne]; omega
  have d27 : ((o : Int) == 27) = false := by rw [beq_eq_false_iff_ne]; omega
  have d28 : ((o : Int) == 28) = false := by rw [beq_eq_false_iff_ne]; omega
  have d29 : ((o : Int) == 29) = false := by rw [beq_eq_false_iff_ne]; omega
  clear ho
  go_enter Salg.func63, Salg.ntmps63
  go_wp2_with fail
  go_ret
  exact ⟨rfl, rfl⟩
end Go.Proofs.YgcsalGreat

/-
  The walks of yp.isNegative, law.modPow, law.lessThanAll.
-/
import Derived.Test.YgcsalGreatYp1
set_option linter.unusedSimpArgs false
namespace Go.Proofs.YgcsalGreat
open Go.RowKit Go.Own

set_option maxHeartbeats 2000000 in
set_option maxRecDepth 100000 in
theorem isNegative_any (v : Value) (N : Nat) (w : World) (hN : NumV w v N) (hb : N < 2 ^ 256) : Calls Salg.prog 145 #[v] w fun e w' => e = .returned (.bool (decide (2 ^ 255 ≤ N))) ∧ w' = w := by
  have HC := hid (natBit_any v N 255 w hN (by decide))
  have he : decide (N / 2 ^ 255 % 2 = 1) = decide (2 ^ 255 ≤ N) := by
    rw [show (2 : Nat) ^ 255 = 57896044618658097711785492504343953926634992332820282019728792003956564819968 from rfl]
    rw [show (2 : Nat) ^ 256 = 115792089237316195423570985008687907853269984665640564039457584007913129639936 from rfl] at hb
    rw [Bool.eq_iff_iff]
    simp only [decide_eq_true_eq]
    omega
  rw [he] at HC
  generalize decide (2 ^ 255 ≤ N) = t at *
  clear hN hb he
  go_enter Salg.func145, Salg.ntmps145
  go_wp2_with fail
  refine HC.out.mono ?_
  rintro e w2 ⟨rfl, rfl⟩
  go_wp2_with fail
  go_ret
  exact ⟨rfl, rfl⟩

set_option maxHeartbeats 2000000 in
set_option maxRecDepth 100000 in
theorem modPow_any (v : Value) (N : Nat) (w : World) (hN : NumV w v N) (hb : N < 256 ^ 200) : Calls Salg.prog 73 #[v] w fun e w' => ∃ u, e = .returned u ∧ NumV w' u (N % 2 ^ 256) ∧ Kept [] w w' := by
  have M := Mem.start w []
  have HN := hid hN
  clear hN
  go_enter Salg.func73, Salg.ntmps73
  go_wp2_with fail
  refine (pow2_int 256 (by decide) (by decide) _).mono ?_
  rintro e w2 ⟨P1, rfl, xHP1, K⟩
  have HP1 := hid xHP1
  replace HN := hid (HN.out.kept K)
  replace M := M.call K
  clear K xHP1
  go_wp2_with fail
  refine (divMod_num _ _ _ _ _ HN.out HP1.out hb (by decide) (by decide)).mono ?_
  rintro e w3 ⟨Q1, R1, rfl, xHQ1, xHR1, K⟩
  have HQ1 := hid xHQ1
  have HR1 := hid xHR1
  replace M := M.call K
  clear K xHQ1 xHR1
  have HR : Hid (NumV w3 R1 (N % 2 ^ 256)) := HR1.out
  clear HR1 HQ1 HP1 HN
  go_wp2_with fail
  go_ret
  exact ⟨_, rfl, HR.out, M.kept⟩

set_option maxHeartbeats 2000000 in
set_option maxRecDepth 100000 in
theorem lessThanAll_any (v : Value) (N : Nat) (w : World) (hN : NumV w v N) (hb : N ≤ 2 ^ 256) : Calls Salg.prog 75 #[v] w fun e w' => ∃ u, e = .returned u ∧ NumV w' u (2 ^ 256 - N) ∧ Kept [] w w' := by
  have M := Mem.start w []
  have HN := hid hN
  clear hN
  go_enter Salg.func75, Salg.ntmps75
  go_wp2_with fail
  refine (pow2_int 256 (by decide) (by decide) _).mono ?_
  rintro e w2 ⟨P1, rfl, xHP1, K⟩
  have HP1 := hid xHP1
  replace HN := hid (HN.out.kept K)
  replace M := M.call K
  clear K xHP1
  go_wp2_with fail
  refine (sub_num _ _ _ _ _ HP1.out HN.out (by decide) hb).mono ?_
  rintro e w3 ⟨R1, rfl, xHR1, K⟩
  have HR1 := hid xHR1
  replace M := M.call K
  clear K xHR1
  have HR : Hid (NumV w3 R1 (2 ^ 256 - N)) := HR1.out
  clear HR1 HP1 HN
  go_wp2_with fail
  go_ret
  exact ⟨_, rfl, HR.out, M.kept⟩
end Go.Proofs.YgcsalGreat

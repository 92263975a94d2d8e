/-
  The walk of law.wrapHolds, where it holds.
-/
import Derived.Test.YgcsalGreatCalls
import Derived.Test.YgcsalGreatYp10
import Derived.Test.YgcsalGreatIsNat
set_option linter.unusedSimpArgs false
namespace Go.Proofs.YgcsalGreat
open Go.RowKit Go.Own

set_option maxHeartbeats 2000000 in
set_option maxRecDepth 100000 in
theorem wrapHolds_yes (v : Value) (N : Nat) (xs : List Nat) (t : Bool) (w : World) (hv : NumV w v N) (hN : N < 256 ^ 200) (hx : xs.length = 4) (hL : Limbs xs) (hval : N % 2 ^ 256 = lval xs) (ht : decide (2 ^ 256 ≤ N) = t) :
    Calls Salg.prog 67 #[v, A64 xs, .bool t] w fun e w' => e = .returned (.bool true) ∧ Kept [] w w' := by
  have M := Mem.start w []
  have HN := hid hv
  have HCP : Hid (decide (0 ≤ cmpI N (2 ^ 256)) = t) := by
    show _ = _
    rw [← ht]
    rw [Bool.eq_iff_iff]
    simp only [decide_eq_true_eq]
    have h1 := cmpI_neg N (2 ^ 256)
    constructor
    · intro h
      exact Nat.le_of_not_lt fun h' => absurd (h1.2 h') (by omega)
    · intro h
      exact Int.not_lt.1 fun h' => absurd (h1.1 h') (by omega)
  have HL := hid hL
  have HVL := hid hval
  clear hv ht hL hval
  go_enter Salg.func67, Salg.ntmps67
  go_wp2_with ((with_reducible apply L_box (d := 4) M); rfl; clear M; intro c1 w1 hc1 M; simp only [Act.put, List.setIfInBounds_toArray, List.set_cons_zero, List.set_cons_succ])
  refine S_region (by kernel_rfl) ?_
  replace M := M.drew
  replace HN := hid (HN.out.kept M.kept)
  refine C_region [0, 1, 2, 3, 4, 5, 6, 7, 8, 9, 10, 11, 12] (by kernel_rfl) M ?_
  simp only [List.filterMap_cons, List.filterMap_nil, List.getElem?_cons_zero, List.getElem?_cons_succ]
  ((with_reducible apply C_run); rfl; rfl; (intro w M; exact run_loadAll (by (first | with_reducible exact M.r0 | with_reducible exact M.r1 | with_reducible exact M.r2 | with_reducible exact M.r3 | with_reducible exact M.r4 | with_reducible exact M.r5 | with_reducible exact M.r6 | assumption | exact M.kept.row (by assumption) (by simp))) rfl Salg.underlying25 rfl (by first | with_reducible exact size25 | (rw [size25]; simp [hx]))); simp only [Act.put, List.setIfInBounds_toArray, List.set_cons_zero, List.set_cons_succ])
  ((with_reducible apply C_run); rfl; rfl; (intro w M; go_simp; (try go_ints); (try simp only [↓IntWalk.iteOmega]); (try with_reducible rfl)); simp only [Act.put, List.setIfInBounds_toArray, List.set_cons_zero, List.set_cons_succ])
  refine C_call rfl Salg.func73 (by kernel_rfl) (by kernel_rfl) (args := [v]) rfl ?_
  refine (modPow_any _ _ _ HN.out hN).mono ?_
  rintro e w2 ⟨U1, rfl, xHU1, K⟩
  have HU1 := hid xHU1
  replace HN := hid (HN.out.kept K)
  replace M := M.call K
  clear K xHU1
  refine ⟨_, rfl, M, ?_⟩
  simp only [Act.put, List.setIfInBounds_toArray, List.set_cons_zero, List.set_cons_succ]
  rw [HVL.out] at HU1
  refine C_call rfl Salg.func65 (by kernel_rfl) (by kernel_rfl) (args := [A64 xs, U1]) rfl ?_
  refine (isNat_yes xs _ _ hx HL.out HU1.out).mono ?_
  rintro e w3 ⟨rfl, K⟩
  replace HN := hid (HN.out.kept K)
  replace M := M.call K
  clear K
  refine ⟨_, rfl, M, ?_⟩
  simp only [Act.put, List.setIfInBounds_toArray, List.set_cons_zero, List.set_cons_succ]
  ((with_reducible apply C_run); rfl; rfl; (intro w M; go_simp; (try go_ints); (try simp only [↓IntWalk.iteOmega]); (try with_reducible rfl)); simp only [Act.put, List.setIfInBounds_toArray, List.set_cons_zero, List.set_cons_succ])
  ((with_reducible apply C_run); rfl; rfl; (intro w M; go_simp; (try go_ints); (try simp only [↓IntWalk.iteOmega]); (try with_reducible rfl)); simp only [Act.put, List.setIfInBounds_toArray, List.set_cons_zero, List.set_cons_succ])
  ((with_reducible apply C_run); rfl; rfl; (intro w M; go_simp; (try go_ints); (try simp only [↓IntWalk.iteOmega]); (try with_reducible rfl)); simp only [Act.put, List.setIfInBounds_toArray, List.set_cons_zero, List.set_cons_succ])
  refine C_call rfl Salg.func74 (by kernel_rfl) (by kernel_rfl) (args := [.int .u16 256]) rfl ?_
  refine (pow2_int 256 (by decide) (by decide) _).mono ?_
  rintro e w4 ⟨P1, rfl, xHP1, K⟩
  have HP1 := hid xHP1
  replace HN := hid (HN.out.kept K)
  replace M := M.call K
  clear K xHP1
  refine ⟨_, rfl, M, ?_⟩
  simp only [Act.put, List.setIfInBounds_toArray, List.set_cons_zero, List.set_cons_succ]
  refine C_call rfl Salg.func72 (by kernel_rfl) (by kernel_rfl) (args := [v, P1]) rfl ?_
  refine (cmp_num _ _ _ _ _ HN.out HP1.out).mono ?_
  rintro e w5 ⟨rfl, K⟩
  replace M := M.call K
  clear K
  refine ⟨_, rfl, M, ?_⟩
  simp only [Act.put, List.setIfInBounds_toArray, List.set_cons_zero, List.set_cons_succ]
  rw [show (2 : Nat) ^ (256 : Int).toNat = 2 ^ 256 from rfl]
  generalize cmpI N (2 ^ 256) = cc at *
  ((with_reducible apply C_run); rfl; rfl; (intro w M; go_simp; (try go_ints); (try simp only [↓IntWalk.iteOmega]); (try with_reducible rfl)); simp only [Act.put, List.setIfInBounds_toArray, List.set_cons_zero, List.set_cons_succ])
  rw [HCP.out]
  ((with_reducible apply C_run); rfl; rfl; (intro w M; go_simp; (try go_ints); (try simp only [↓IntWalk.iteOmega]); (try with_reducible rfl)); simp only [Act.put, List.setIfInBounds_toArray, List.set_cons_zero, List.set_cons_succ])
  (try simp only [beq_self_eq_true])
  ((with_reducible apply C_run); rfl; rfl; (intro w M; go_simp; (try go_ints); (try simp only [↓IntWalk.iteOmega]); (try with_reducible rfl)); simp only [Act.put, List.setIfInBounds_toArray, List.set_cons_zero, List.set_cons_succ])
  ((with_reducible apply C_run); rfl; rfl; (intro w M; go_simp; (try go_ints); (try simp only [↓IntWalk.iteOmega]); (try with_reducible rfl)); simp only [Act.put, List.setIfInBounds_toArray, List.set_cons_zero, List.set_cons_succ])
  refine C_nil ?_
  intro _
  go_wp2_with fail
  go_ret
  exact ⟨rfl, M.kept⟩
end Go.Proofs.YgcsalGreat

/-
  (*yp.State).value at NOT, CALLDATALOAD, CALLDATASIZE, GAS, ADDRESS, ORIGIN, CALLER, CALLVALUE, RETURNDATASIZE.
-/
import Derived.Test.YgcsalGreatCp7
import Derived.Test.YgcsalGreatYp10
set_option linter.unusedSimpArgs false
set_option linter.unusedVariables false
namespace Go.Own
def ones256 : Nat := 18446744073709551616 ^ 4 - 1
end Go.Own
namespace Go.Proofs.YgcsalGreat
open Go.RowKit Go.Own

set_option maxHeartbeats 4000000 in
set_option maxRecDepth 100000 in
theorem valueM_not (st a sv : Value) (c fb q ab A : Nat) (cs fs args : Array Value) (ds : List Nat) (w : World) (hr : w.heap[fb]? = some (.cells fs 142 (0, 0))) (hab : w.heap[ab]? = some (.cells args 89 (0, 0))) (ha : args[0]? = some a) (hA : NumV w a A) (hA2 : A < 2 ^ 256) :
    Calls Salg.prog 196 #[st, .pointer (some ⟨fb, q, none⟩), .int .u8 25, .slice (some ⟨ab, 0, none⟩) 1 1] w fun e w' => ∃ u, e = .returned u ∧ NumV w' u ((18446744073709551616 ^ 4 - 1 - A) % 18446744073709551616 ^ 4) ∧ Kept [] w w' := by
  have M := Mem.start w []
  have HA := hid hA
  clear hA
  go_enter Salg.func196, Salg.ntmps196
  go_wp2_with fail
  refine (operand_in 0 ab 1 1 args a _ hab (by decide) (by decide) ha).mono ?_
  rintro e w1 ⟨rfl, hw⟩
  replace hw := hw.symm
  subst hw
  go_wp2_with fail
  refine (operand_out 1 _ _ _ _ (by decide)).mono ?_
  rintro e w1 ⟨rfl, hw⟩
  replace hw := hw.symm
  subst hw
  go_wp2_with fail
  refine (family_not _).mono ?_
  rintro e w1 ⟨rfl, hw⟩
  replace hw := hw.symm
  subst hw
  go_wp2_with fail
  refine (operand_out 2 _ _ _ _ (by decide)).mono ?_
  rintro e w1 ⟨rfl, hw⟩
  replace hw := hw.symm
  subst hw
  go_wp2_with fail
  refine (alu_25 a nilS nilS A 0 0 _ HA.out (nil_num _) (nil_num _) hA2 (by decide) (by decide)).mono ?_
  rintro e w2 ⟨r, rfl, xHR, K⟩
  have HR := hid xHR
  replace M := M.call K
  clear K xHR
  go_wp2_with fail
  go_ret
  exact ⟨_, rfl, HR.out, M.kept⟩

set_option maxHeartbeats 4000000 in
set_option maxRecDepth 100000 in
theorem valueM_calldataload (st a sv : Value) (c fb q ab A : Nat) (cs fs args : Array Value) (ds : List Nat) (w : World) (hr : w.heap[fb]? = some (.cells fs 142 (0, 0))) (hab : w.heap[ab]? = some (.cells args 89 (0, 0))) (ha : args[0]? = some a) (hA : NumV w a A) (hsc : fs[q + 11]? = some sv) (hsv : NatV w sv ds) (hl : ds.length ≤ 1000) :
    Calls Salg.prog 196 #[st, .pointer (some ⟨fb, q, none⟩), .int .u8 53, .slice (some ⟨ab, 0, none⟩) 1 1] w fun e w' => ∃ u, e = .returned u ∧ NumV w' u (be (cutB ds A 32)) ∧ Kept [] w w' := by
  have M := Mem.start w []
  have HA := hid hA
  clear hA
  have HSV := hid hsv
  clear hsv
  go_enter Salg.func196, Salg.ntmps196
  go_wp2_with fail
  refine (operand_in 0 ab 1 1 args a _ hab (by decide) (by decide) ha).mono ?_
  rintro e w1 ⟨rfl, hw⟩
  replace hw := hw.symm
  subst hw
  go_wp2_with fail
  refine (operand_out 1 _ _ _ _ (by decide)).mono ?_
  rintro e w1 ⟨rfl, hw⟩
  replace hw := hw.symm
  subst hw
  go_wp2_with fail
  refine (family_calldataload _).mono ?_
  rintro e w1 ⟨rfl, hw⟩
  replace hw := hw.symm
  subst hw
  have HSM := hid HSV.out.small
  go_wp2_with fail
  refine S_region (by kernel_rfl) ?_
  refine E_stage 0 9 [0, 1, 2, 3, 4, 5, 6, 7, 8] (by kernel_rfl) M.drew ?_
  clear M
  simp only [List.filterMap_cons, List.filterMap_nil, List.getElem?_cons_zero, List.getElem?_cons_succ]
  ((with_reducible apply E_run); rfl; rfl; (intro w M; go_simp; (try go_ints); (try simp only [↓IntWalk.iteOmega]); (try with_reducible rfl)); simp only [Act.put, List.setIfInBounds_toArray, List.set_cons_zero, List.set_cons_succ])
  ((with_reducible apply E_run); rfl; rfl; (intro w M; go_simp; (try go_ints); (try simp only [↓IntWalk.iteOmega]); (try with_reducible rfl)); simp only [Act.put, List.setIfInBounds_toArray, List.set_cons_zero, List.set_cons_succ])
  ((with_reducible apply E_run); rfl; rfl; (intro w M; go_simp; (try go_ints); (try simp only [↓IntWalk.iteOmega]); (try with_reducible rfl)); simp only [Act.put, List.setIfInBounds_toArray, List.set_cons_zero, List.set_cons_succ])
  ((with_reducible apply E_run); rfl; rfl; (intro w M; exact run_loadCell (M.kept.row hr (by simp)) rfl hsc Salg.underlying40 rfl); simp only [Act.put, List.setIfInBounds_toArray, List.set_cons_zero, List.set_cons_succ])
  ((with_reducible apply E_run); rfl; rfl; (intro w M; go_simp; (try go_ints); (try simp only [↓IntWalk.iteOmega]); (try with_reducible rfl)); simp only [Act.put, List.setIfInBounds_toArray, List.set_cons_zero, List.set_cons_succ])
  refine E_call rfl Salg.func87 (by kernel_rfl) (by kernel_rfl) (args := [.int .u64 32]) rfl ?_
  intro w1 K M
  clear K
  refine (num_int _ 32 rfl (by decide) _).mono ?_
  rintro e w2 ⟨n32, rfl, xH32, K⟩
  have H32 := hid xH32
  clear xH32
  replace M := M.call K
  refine ⟨_, rfl, trivial, M, ?_⟩
  clear K
  simp only [Act.put, List.setIfInBounds_toArray, List.set_cons_zero, List.set_cons_succ]
  refine E_call rfl Salg.func190 (by kernel_rfl) (by kernel_rfl) (args := [sv, a, n32]) rfl ?_
  intro w1 K M
  replace H32 := hid (H32.out.kept K)
  clear K
  refine (cut_gen sv a n32 ds A 32 _ (HSV.out.kept M.kept) (HA.out.kept M.kept) H32.out (by decide) hl).mono ?_
  rintro e w3 ⟨b, rfl, xb, xr, K⟩
  have HB := hid xr
  clear xr
  replace M := M.call K
  refine ⟨_, rfl, trivial, M, ?_⟩
  clear K
  simp only [Act.put, List.setIfInBounds_toArray, List.set_cons_zero, List.set_cons_succ]
  refine E_call rfl Salg.func64 (by kernel_rfl) (by kernel_rfl) (args := [.slice (some ⟨b, 0, none⟩) 32 32]) rfl ?_
  intro w4 K M
  replace HB := hid (K.row HB.out (by simp))
  clear K
  have HC := hid (fromBE_any b 5 (cutB ds A 32) w4 HB.out (by rw [cutB_length]; decide) (cutB_small HSM.out _ _))
  rw [cutB_length] at HC
  refine (HC.out).mono ?_
  rintro e w5 ⟨r, rfl, xr, K⟩
  have HR := hid xr
  clear xr
  replace M := M.call K
  refine ⟨_, rfl, trivial, M, ?_⟩
  clear K
  simp only [Act.put, List.setIfInBounds_toArray, List.set_cons_zero, List.set_cons_succ]
  ((with_reducible apply E_run); rfl; rfl; (intro w M; go_simp; (try go_ints); (try simp only [↓IntWalk.iteOmega]); (try with_reducible rfl)); simp only [Act.put, List.setIfInBounds_toArray, List.set_cons_zero, List.set_cons_succ])
  refine E_nil ?_
  intro w6 K M
  replace HR := hid (HR.out.kept K)
  clear K
  refine S_done ?_
  go_wp2_with fail
  go_ret
  exact ⟨_, rfl, HR.out, M.kept⟩

set_option maxHeartbeats 4000000 in
set_option maxRecDepth 100000 in
theorem valueM_calldatasize (st a sv : Value) (sp : Option Addr) (sq c fb q ab A : Nat) (cs fs args : Array Value) (ds : List Nat) (w : World) (hr : w.heap[fb]? = some (.cells fs 142 (0, 0))) (hsc : fs[q + 11]? = some (.slice sp A sq)) (hA2 : A ≤ 100000) :
    Calls Salg.prog 196 #[st, .pointer (some ⟨fb, q, none⟩), .int .u8 54, .slice (some ⟨ab, 0, none⟩) 0 0] w fun e w' => ∃ u, e = .returned u ∧ NumV w' u A ∧ Kept [] w w' := by
  have M := Mem.start w []
  go_enter Salg.func196, Salg.ntmps196
  go_wp2_with fail
  refine (operand_out 0 _ _ _ _ (by decide)).mono ?_
  rintro e w1 ⟨rfl, hw⟩
  replace hw := hw.symm
  subst hw
  go_wp2_with fail
  refine (operand_out 1 _ _ _ _ (by decide)).mono ?_
  rintro e w1 ⟨rfl, hw⟩
  replace hw := hw.symm
  subst hw
  go_wp2_with fail
  refine (family_calldatasize _).mono ?_
  rintro e w1 ⟨rfl, hw⟩
  replace hw := hw.symm
  subst hw
  go_wp2_with ((with_reducible apply W_loadCell); rfl; exact M.kept.row hr (by simp); exact hsc; exact Salg.underlying40; rfl; simp only [Act.put, List.setIfInBounds_toArray, List.set_cons_zero, List.set_cons_succ])
  refine (num_int _ A (by first | rfl | omega | (simp; omega)) (by omega) _).mono ?_
  rintro e w2 ⟨r, rfl, xHR, K⟩
  have HR := hid xHR
  replace M := M.call K
  clear K xHR
  go_wp2_with fail
  go_ret
  exact ⟨_, rfl, HR.out, M.kept⟩

set_option maxHeartbeats 4000000 in
set_option maxRecDepth 100000 in
theorem valueM_returndatasize (st a sv : Value) (sp : Option Addr) (sq c fb q ab A : Nat) (cs fs args : Array Value) (ds : List Nat) (w : World) (hr : w.heap[fb]? = some (.cells fs 142 (0, 0))) (hc : w.heap[c]? = some (.cells cs 119 (0, 0))) (hsc : cs[10]? = some (.slice sp A sq)) (hA2 : A ≤ 100000) :
    Calls Salg.prog 196 #[.pointer (some ⟨c, 0, none⟩), .pointer (some ⟨fb, q, none⟩), .int .u8 61, .slice (some ⟨ab, 0, none⟩) 0 0] w fun e w' => ∃ u, e = .returned u ∧ NumV w' u A ∧ Kept [] w w' := by
  have M := Mem.start w []
  go_enter Salg.func196, Salg.ntmps196
  go_wp2_with fail
  refine (operand_out 0 _ _ _ _ (by decide)).mono ?_
  rintro e w1 ⟨rfl, hw⟩
  replace hw := hw.symm
  subst hw
  go_wp2_with fail
  refine (operand_out 1 _ _ _ _ (by decide)).mono ?_
  rintro e w1 ⟨rfl, hw⟩
  replace hw := hw.symm
  subst hw
  go_wp2_with fail
  refine (family_returndatasize _).mono ?_
  rintro e w1 ⟨rfl, hw⟩
  replace hw := hw.symm
  subst hw
  go_wp2_with ((with_reducible apply W_loadCell); rfl; exact M.kept.row hc (by simp); exact hsc; exact Salg.underlying40; rfl; simp only [Act.put, List.setIfInBounds_toArray, List.set_cons_zero, List.set_cons_succ])
  refine (num_int _ A (by first | rfl | omega | (simp; omega)) (by omega) _).mono ?_
  rintro e w2 ⟨r, rfl, xHR, K⟩
  have HR := hid xHR
  replace M := M.call K
  clear K xHR
  go_wp2_with fail
  go_ret
  exact ⟨_, rfl, HR.out, M.kept⟩

set_option maxHeartbeats 4000000 in
set_option maxRecDepth 100000 in
theorem valueM_gas (st a sv : Value) (c fb q ab A : Nat) (cs fs args : Array Value) (ds : List Nat) (w : World) (hr : w.heap[fb]? = some (.cells fs 142 (0, 0))) (hsc : fs[q + 4]? = some sv) (hsv : NumV w sv A) :
    Calls Salg.prog 196 #[st, .pointer (some ⟨fb, q, none⟩), .int .u8 90, .slice (some ⟨ab, 0, none⟩) 0 0] w fun e w' => ∃ u, e = .returned u ∧ NumV w' u A ∧ Kept [] w w' := by
  have M := Mem.start w []
  have HSV := hid hsv
  clear hsv
  go_enter Salg.func196, Salg.ntmps196
  go_wp2_with fail
  refine (operand_out 0 _ _ _ _ (by decide)).mono ?_
  rintro e w1 ⟨rfl, hw⟩
  replace hw := hw.symm
  subst hw
  go_wp2_with fail
  refine (operand_out 1 _ _ _ _ (by decide)).mono ?_
  rintro e w1 ⟨rfl, hw⟩
  replace hw := hw.symm
  subst hw
  go_wp2_with fail
  refine (family_gas _).mono ?_
  rintro e w1 ⟨rfl, hw⟩
  replace hw := hw.symm
  subst hw
  go_wp2_with ((with_reducible apply W_loadCell); rfl; exact M.kept.row hr (by simp); exact hsc; exact Salg.underlying89; rfl; simp only [Act.put, List.setIfInBounds_toArray, List.set_cons_zero, List.set_cons_succ])
  refine (norm_num sv A _ (HSV.out.kept M.kept)).mono ?_
  rintro e w2 ⟨r, rfl, xHR, K⟩
  have HR := hid xHR
  replace M := M.call K
  clear K xHR
  go_wp2_with fail
  go_ret
  exact ⟨_, rfl, HR.out, M.kept⟩

set_option maxHeartbeats 4000000 in
set_option maxRecDepth 100000 in
theorem valueM_callvalue (st a sv : Value) (c fb q ab A : Nat) (cs fs args : Array Value) (ds : List Nat) (w : World) (hr : w.heap[fb]? = some (.cells fs 142 (0, 0))) (hsc : fs[q + 5]? = some sv) (hsv : NumV w sv A) :
    Calls Salg.prog 196 #[st, .pointer (some ⟨fb, q, none⟩), .int .u8 52, .slice (some ⟨ab, 0, none⟩) 0 0] w fun e w' => ∃ u, e = .returned u ∧ NumV w' u A ∧ Kept [] w w' := by
  have M := Mem.start w []
  have HSV := hid hsv
  clear hsv
  go_enter Salg.func196, Salg.ntmps196
  go_wp2_with fail
  refine (operand_out 0 _ _ _ _ (by decide)).mono ?_
  rintro e w1 ⟨rfl, hw⟩
  replace hw := hw.symm
  subst hw
  go_wp2_with fail
  refine (operand_out 1 _ _ _ _ (by decide)).mono ?_
  rintro e w1 ⟨rfl, hw⟩
  replace hw := hw.symm
  subst hw
  go_wp2_with fail
  refine (family_callvalue _).mono ?_
  rintro e w1 ⟨rfl, hw⟩
  replace hw := hw.symm
  subst hw
  go_wp2_with ((with_reducible apply W_loadCell); rfl; exact M.kept.row hr (by simp); exact hsc; exact Salg.underlying89; rfl; simp only [Act.put, List.setIfInBounds_toArray, List.set_cons_zero, List.set_cons_succ])
  refine (norm_num sv A _ (HSV.out.kept M.kept)).mono ?_
  rintro e w2 ⟨r, rfl, xHR, K⟩
  have HR := hid xHR
  replace M := M.call K
  clear K xHR
  go_wp2_with fail
  go_ret
  exact ⟨_, rfl, HR.out, M.kept⟩

set_option maxHeartbeats 4000000 in
set_option maxRecDepth 100000 in
theorem valueM_address (st a sv : Value) (c fb q ab A : Nat) (cs fs args : Array Value) (ds : List Nat) (w : World) (hr : w.heap[fb]? = some (.cells fs 142 (0, 0))) (hcs : ∀ i x, ds[i]? = some x → fs[q + 12 + i]? = some (n8 x)) (hl : ds.length = 20) (hsm : Small ds) :
    Calls Salg.prog 196 #[st, .pointer (some ⟨fb, q, none⟩), .int .u8 48, .slice (some ⟨ab, 0, none⟩) 0 0] w fun e w' => ∃ u, e = .returned u ∧ NumV w' u (be ds) ∧ Kept [] w w' := by
  have M := Mem.start w []
  go_enter Salg.func196, Salg.ntmps196
  go_wp2_with fail
  refine (operand_out 0 _ _ _ _ (by decide)).mono ?_
  rintro e w1 ⟨rfl, hw⟩
  replace hw := hw.symm
  subst hw
  go_wp2_with fail
  refine (operand_out 1 _ _ _ _ (by decide)).mono ?_
  rintro e w1 ⟨rfl, hw⟩
  replace hw := hw.symm
  subst hw
  go_wp2_with fail
  refine (family_address _).mono ?_
  rintro e w1 ⟨rfl, hw⟩
  replace hw := hw.symm
  subst hw
  have HCS := hid hcs
  have HSM := hid hsm
  clear hcs hsm
  go_wp2_with ((with_reducible apply W_sliceArr (l := 0) (h := 20) (m := 20)); rfl; exact Salg.underlying45; exact size5; (first | exact Or.inl ⟨rfl, rfl⟩ | exact Or.inr ⟨_, _, _, rfl, rfl, by omega⟩); (first | exact Or.inl ⟨rfl, rfl⟩ | exact Or.inr ⟨_, _, _, rfl, rfl, by omega⟩); (first | exact Or.inl ⟨rfl, rfl⟩ | exact Or.inr ⟨_, _, _, rfl, rfl, by omega⟩); (first | exact Or.inl rfl | exact Or.inr rfl); omega; omega; omega; omega; (try simp only [Nat.zero_add, Nat.sub_zero]); simp only [Act.put, List.setIfInBounds_toArray, List.set_cons_zero, List.set_cons_succ])
  have HC := hid (fromBE_at fb (q + 12) 142 20 fs ds _ (M.kept.row hr (by simp)) HCS.out (by omega) HSM.out)
  rw [hl] at HC
  refine (HC.out).mono ?_
  rintro e w2 ⟨r, rfl, xHR, K⟩
  have HR := hid xHR
  replace M := M.call K
  clear K xHR
  go_wp2_with fail
  go_ret
  exact ⟨_, rfl, HR.out, M.kept⟩

set_option maxHeartbeats 4000000 in
set_option maxRecDepth 100000 in
theorem valueM_caller (st a sv : Value) (c fb q ab A : Nat) (cs fs args : Array Value) (ds : List Nat) (w : World) (hr : w.heap[fb]? = some (.cells fs 142 (0, 0))) (hcs : ∀ i x, ds[i]? = some x → fs[q + 32 + i]? = some (n8 x)) (hl : ds.length = 20) (hsm : Small ds) :
    Calls Salg.prog 196 #[st, .pointer (some ⟨fb, q, none⟩), .int .u8 51, .slice (some ⟨ab, 0, none⟩) 0 0] w fun e w' => ∃ u, e = .returned u ∧ NumV w' u (be ds) ∧ Kept [] w w' := by
  have M := Mem.start w []
  go_enter Salg.func196, Salg.ntmps196
  go_wp2_with fail
  refine (operand_out 0 _ _ _ _ (by decide)).mono ?_
  rintro e w1 ⟨rfl, hw⟩
  replace hw := hw.symm
  subst hw
  go_wp2_with fail
  refine (operand_out 1 _ _ _ _ (by decide)).mono ?_
  rintro e w1 ⟨rfl, hw⟩
  replace hw := hw.symm
  subst hw
  go_wp2_with fail
  refine (family_caller _).mono ?_
  rintro e w1 ⟨rfl, hw⟩
  replace hw := hw.symm
  subst hw
  have HCS := hid hcs
  have HSM := hid hsm
  clear hcs hsm
  go_wp2_with ((with_reducible apply W_sliceArr (l := 0) (h := 20) (m := 20)); rfl; exact Salg.underlying45; exact size5; (first | exact Or.inl ⟨rfl, rfl⟩ | exact Or.inr ⟨_, _, _, rfl, rfl, by omega⟩); (first | exact Or.inl ⟨rfl, rfl⟩ | exact Or.inr ⟨_, _, _, rfl, rfl, by omega⟩); (first | exact Or.inl ⟨rfl, rfl⟩ | exact Or.inr ⟨_, _, _, rfl, rfl, by omega⟩); (first | exact Or.inl rfl | exact Or.inr rfl); omega; omega; omega; omega; (try simp only [Nat.zero_add, Nat.sub_zero]); simp only [Act.put, List.setIfInBounds_toArray, List.set_cons_zero, List.set_cons_succ])
  have HC := hid (fromBE_at fb (q + 32) 142 20 fs ds _ (M.kept.row hr (by simp)) HCS.out (by omega) HSM.out)
  rw [hl] at HC
  refine (HC.out).mono ?_
  rintro e w2 ⟨r, rfl, xHR, K⟩
  have HR := hid xHR
  replace M := M.call K
  clear K xHR
  go_wp2_with fail
  go_ret
  exact ⟨_, rfl, HR.out, M.kept⟩

set_option maxHeartbeats 4000000 in
set_option maxRecDepth 100000 in
theorem valueM_origin (st a sv : Value) (c fb q ab A : Nat) (cs fs args : Array Value) (ds : List Nat) (w : World) (hr : w.heap[fb]? = some (.cells fs 142 (0, 0))) (hc : w.heap[c]? = some (.cells cs 119 (0, 0))) (hcs : ∀ i x, ds[i]? = some x → cs[19 + i]? = some (n8 x)) (hl : ds.length = 20) (hsm : Small ds) :
    Calls Salg.prog 196 #[.pointer (some ⟨c, 0, none⟩), .pointer (some ⟨fb, q, none⟩), .int .u8 50, .slice (some ⟨ab, 0, none⟩) 0 0] w fun e w' => ∃ u, e = .returned u ∧ NumV w' u (be ds) ∧ Kept [] w w' := by
  have M := Mem.start w []
  go_enter Salg.func196, Salg.ntmps196
  go_wp2_with fail
  refine (operand_out 0 _ _ _ _ (by decide)).mono ?_
  rintro e w1 ⟨rfl, hw⟩
  replace hw := hw.symm
  subst hw
  go_wp2_with fail
  refine (operand_out 1 _ _ _ _ (by decide)).mono ?_
  rintro e w1 ⟨rfl, hw⟩
  replace hw := hw.symm
  subst hw
  go_wp2_with fail
  refine (family_origin _).mono ?_
  rintro e w1 ⟨rfl, hw⟩
  replace hw := hw.symm
  subst hw
  have HCS := hid hcs
  have HSM := hid hsm
  clear hcs hsm
  go_wp2_with ((with_reducible apply W_sliceArr (l := 0) (h := 20) (m := 20)); rfl; exact Salg.underlying45; exact size5; (first | exact Or.inl ⟨rfl, rfl⟩ | exact Or.inr ⟨_, _, _, rfl, rfl, by omega⟩); (first | exact Or.inl ⟨rfl, rfl⟩ | exact Or.inr ⟨_, _, _, rfl, rfl, by omega⟩); (first | exact Or.inl ⟨rfl, rfl⟩ | exact Or.inr ⟨_, _, _, rfl, rfl, by omega⟩); (first | exact Or.inl rfl | exact Or.inr rfl); omega; omega; omega; omega; (try simp only [Nat.zero_add, Nat.sub_zero]); simp only [Act.put, List.setIfInBounds_toArray, List.set_cons_zero, List.set_cons_succ])
  have HC := hid (fromBE_at c (19) 119 20 cs ds _ (M.kept.row hc (by simp)) HCS.out (by omega) HSM.out)
  rw [hl] at HC
  refine (HC.out).mono ?_
  rintro e w2 ⟨r, rfl, xHR, K⟩
  have HR := hid xHR
  replace M := M.call K
  clear K xHR
  go_wp2_with fail
  go_ret
  exact ⟨_, rfl, HR.out, M.kept⟩
end Go.Proofs.YgcsalGreat

/-
  The walk of law.contextWay: kinds 0 to 3.
-/
import Derived.Test.YgcsalGreatCx39
set_option linter.unusedSimpArgs false
set_option linter.unusedVariables false
namespace Go.Proofs.YgcsalGreat
open Go.RowKit Go.Own

set_option maxHeartbeats 4000000 in
set_option maxRecDepth 100000 in
theorem way_0 (tv v : Nat) (w : World) : Calls Salg.prog 26 #[.int .u8 0, n8 tv, n8 v] w fun e w' => ∃ cs, e = .returned (.agg (rwL cs 2 false tv nilS (ad 2) (ad 240) tv 0 false).toArray) ∧ Codes2 w' cs [] probeL ∧ Kept [] w w' := by
  have M := Mem.start w []
  go_enter Salg.func26, Salg.ntmps26
  go_wp2_with ((with_reducible apply L_allocA (d := 6) M); exact zero69; clear M; intro t6 w1 ht6 M; simp only [Act.put, List.setIfInBounds_toArray, List.set_cons_zero, List.set_cons_succ])
  refine (probe_lit _).mono ?_
  rintro e w2 ⟨pb, rfl, xP, xN, K⟩
  have h6p : t6 < pb := Nat.lt_of_lt_of_le (lt_of_row M.r0) xN
  replace M := (M.call K).add xP (by intro p hp; simp at hp; subst hp; exact Nat.ne_of_gt h6p)
  clear K xP xN h6p
  go_wp2_with ((with_reducible apply W_buildN (vs := #[nilS, .slice (some ⟨pb, 0, none⟩) 19 19]) (e := 40) M); kernel_rfl; clear M; intro b w3 hb hb2 KB M; clear KB hb2; simp only [Act.put, List.setIfInBounds_toArray, List.set_cons_zero, List.set_cons_succ])
  refine (toA1_any _).mono ?_
  rintro e w2 ⟨rfl, K⟩
  replace M := M.call K
  clear K
  go_wp2_with fail
  refine (addrNo_any 2 _).mono ?_
  rintro e w2 ⟨rfl, K⟩
  replace M := M.call K
  clear K
  go_wp2_with fail
  refine (addrNo_any 1 _).mono ?_
  rintro e w2 ⟨rfl, K⟩
  replace M := M.call K
  clear K
  go_wp2_with (first
    | ((with_reducible apply W_buildV (v := .agg (rwL (.slice (some ⟨b, 0, none⟩) 2 2) 1 false 0 nilS (ad 2) (ad 1) 0 1 false).toArray)); kernel_rfl; simp only [Act.put, List.setIfInBounds_toArray, List.set_cons_zero, List.set_cons_succ])
    | ((with_reducible apply L_allocA (d := 7) M); exact zero69; clear M; intro t7 w1 ht7 M; simp only [Act.put, List.setIfInBounds_toArray, List.set_cons_zero, List.set_cons_succ])
    | ((with_reducible apply W_storeK (b := t7) (vs := (rwL (.slice (some ⟨b, 0, none⟩) 2 2) 1 false 0 nilS (ad 2) (ad 1) 0 1 false).toArray)); rfl; rfl; exact M.r0; exact size69Z; kernel_rfl; exact oneT (rwL_one _ _ _ _ _ _ _ _ _ _ rfl rfl); intro w5 K hr3; replace M := Mem.callPut (L1 := []) M (Or.inr ht7) K hr3; clear K hr3; simp only [List.cons_append, List.nil_append] at M)
    | ((with_reducible apply W_stP (b := t7) (o := 107) (n := 1) (v := n8 tv) (rs := (rwL (.slice (some ⟨b, 0, none⟩) 2 2) 1 false tv nilS (ad 2) (ad 1) 0 1 false).toArray)); rfl; rfl; exact M.r0; exact size5; kernel_rfl; exact oneL (l := [n8 tv]) rfl; exact Nat.le_of_ble_eq_true (by kernel_rfl); kernel_rfl; intro w5 K hr3; replace M := Mem.callPut (L1 := []) M (Or.inr ht7) K hr3; clear K hr3; simp only [List.cons_append, List.nil_append] at M))
  refine (addrNo_any 2 _).mono ?_
  rintro e w2 ⟨rfl, K⟩
  replace M := M.call K
  clear K
  go_wp2_with ((with_reducible apply W_stP (b := t7) (o := 21) (n := 20) (v := A8 (ad 2)) (rs := (rwL (.slice (some ⟨b, 0, none⟩) 2 2) 2 false tv nilS (ad 2) (ad 1) 0 1 false).toArray)); rfl; rfl; exact M.r0; exact size45; kernel_rfl; exact oneL rfl; exact Nat.le_of_ble_eq_true (by kernel_rfl); kernel_rfl; intro w5 K hr3; replace M := Mem.callPut (L1 := []) M (Or.inr ht7) K hr3; clear K hr3; simp only [List.cons_append, List.nil_append] at M)
  refine (sender_any _).mono ?_
  rintro e w2 ⟨rfl, K⟩
  replace M := M.call K
  clear K
  go_wp2_with (first
    | ((with_reducible apply W_stP (b := t7) (o := 195) (n := 20) (v := A8 (ad 240)) (rs := (rwL (.slice (some ⟨b, 0, none⟩) 2 2) 2 false tv nilS (ad 2) (ad 240) 0 1 false).toArray)); rfl; rfl; exact M.r0; exact size45; kernel_rfl; exact oneL rfl; exact Nat.le_of_ble_eq_true (by kernel_rfl); kernel_rfl; intro w5 K hr3; replace M := Mem.callPut (L1 := []) M (Or.inr ht7) K hr3; clear K hr3; simp only [List.cons_append, List.nil_append] at M)
    | ((with_reducible apply W_stP (b := t7) (o := 215) (n := 1) (v := n8 tv) (rs := (rwL (.slice (some ⟨b, 0, none⟩) 2 2) 2 false tv nilS (ad 2) (ad 240) tv 1 false).toArray)); rfl; rfl; exact M.r0; exact size5; kernel_rfl; exact oneL (l := [n8 tv]) rfl; exact Nat.le_of_ble_eq_true (by kernel_rfl); kernel_rfl; intro w5 K hr3; replace M := Mem.callPut (L1 := []) M (Or.inr ht7) K hr3; clear K hr3; simp only [List.cons_append, List.nil_append] at M)
    | ((with_reducible apply W_stP (b := t7) (o := 216) (n := 1) (v := n8 0) (rs := (rwL (.slice (some ⟨b, 0, none⟩) 2 2) 2 false tv nilS (ad 2) (ad 240) tv 0 false).toArray)); rfl; rfl; exact M.r0; exact size5; kernel_rfl; exact oneL (l := [n8 0]) rfl; exact Nat.le_of_ble_eq_true (by kernel_rfl); kernel_rfl; intro w5 K hr3; replace M := Mem.callPut (L1 := []) M (Or.inr ht7) K hr3; clear K hr3; simp only [List.cons_append, List.nil_append] at M)
    | ((with_reducible apply W_loadAll); rfl; exact M.r0; exact Salg.underlying69; rfl; exact (size69 _ _ _ _ _ _ _ _ _ _ rfl rfl); simp only [Act.put, List.setIfInBounds_toArray, List.set_cons_zero, List.set_cons_succ])
    | ((with_reducible apply W_storeK (b := t6) (vs := (rwL (.slice (some ⟨b, 0, none⟩) 2 2) 2 false tv nilS (ad 2) (ad 240) tv 0 false).toArray)); rfl; rfl; exact M.r3; exact size69Z; kernel_rfl; exact oneT (rwL_one _ _ _ _ _ _ _ _ _ _ rfl rfl); intro w5 K hr3; replace M := Mem.callPut (L1 := [_, _, _]) M (Or.inr ht6) K hr3; clear K hr3; simp only [List.cons_append, List.nil_append] at M))
  refine ret_cell1 Salg.results26 rfl M.r3 Salg.underlying69 rfl (size69 _ _ _ _ _ _ _ _ _ _ rfl rfl) rfl ?_
  exact ⟨_, rfl, ⟨b, _, _, rfl, M.r1, .inl ⟨rfl, rfl⟩, code_probe M.r2⟩, M.kept⟩

set_option maxHeartbeats 4000000 in
set_option maxRecDepth 100000 in
theorem way_1 (tv v : Nat) (w : World) (hv : v < 256) : Calls Salg.prog 26 #[.int .u8 1, n8 tv, n8 v] w fun e w' => ∃ cs, e = .returned (.agg (rwL cs 1 false tv nilS (ad 2) (ad 1) v 1 false).toArray) ∧ Codes2 w' cs (fwdC v 2) probeL ∧ Kept [] w w' := by
  have M := Mem.start w []
  go_enter Salg.func26, Salg.ntmps26
  go_wp2_with ((with_reducible apply L_allocA (d := 6) M); exact zero69; clear M; intro t6 w1 ht6 M; simp only [Act.put, List.setIfInBounds_toArray, List.set_cons_zero, List.set_cons_succ])
  refine (probe_lit _).mono ?_
  rintro e w2 ⟨pb, rfl, xP, xN, K⟩
  have h6p : t6 < pb := Nat.lt_of_lt_of_le (lt_of_row M.r0) xN
  replace M := (M.call K).add xP (by intro p hp; simp at hp; subst hp; exact Nat.ne_of_gt h6p)
  clear K xP xN h6p
  go_wp2_with ((with_reducible apply W_buildN (vs := #[nilS, .slice (some ⟨pb, 0, none⟩) 19 19]) (e := 40) M); kernel_rfl; clear M; intro b w3 hb hb2 KB M; clear KB hb2; simp only [Act.put, List.setIfInBounds_toArray, List.set_cons_zero, List.set_cons_succ])
  refine (toA1_any _).mono ?_
  rintro e w2 ⟨rfl, K⟩
  replace M := M.call K
  clear K
  go_wp2_with fail
  refine (addrNo_any 2 _).mono ?_
  rintro e w2 ⟨rfl, K⟩
  replace M := M.call K
  clear K
  go_wp2_with fail
  refine (addrNo_any 1 _).mono ?_
  rintro e w2 ⟨rfl, K⟩
  replace M := M.call K
  clear K
  go_wp2_with (first
    | ((with_reducible apply W_buildV (v := .agg (rwL (.slice (some ⟨b, 0, none⟩) 2 2) 1 false 0 nilS (ad 2) (ad 1) 0 1 false).toArray)); kernel_rfl; simp only [Act.put, List.setIfInBounds_toArray, List.set_cons_zero, List.set_cons_succ])
    | ((with_reducible apply L_allocA (d := 7) M); exact zero69; clear M; intro t7 w1 ht7 M; simp only [Act.put, List.setIfInBounds_toArray, List.set_cons_zero, List.set_cons_succ])
    | ((with_reducible apply W_storeK (b := t7) (vs := (rwL (.slice (some ⟨b, 0, none⟩) 2 2) 1 false 0 nilS (ad 2) (ad 1) 0 1 false).toArray)); rfl; rfl; exact M.r0; exact size69Z; kernel_rfl; exact oneT (rwL_one _ _ _ _ _ _ _ _ _ _ rfl rfl); intro w5 K hr3; replace M := Mem.callPut (L1 := []) M (Or.inr ht7) K hr3; clear K hr3; simp only [List.cons_append, List.nil_append] at M)
    | ((with_reducible apply W_stP (b := t7) (o := 107) (n := 1) (v := n8 tv) (rs := (rwL (.slice (some ⟨b, 0, none⟩) 2 2) 1 false tv nilS (ad 2) (ad 1) 0 1 false).toArray)); rfl; rfl; exact M.r0; exact size5; kernel_rfl; exact oneL (l := [n8 tv]) rfl; exact Nat.le_of_ble_eq_true (by kernel_rfl); kernel_rfl; intro w5 K hr3; replace M := Mem.callPut (L1 := []) M (Or.inr ht7) K hr3; clear K hr3; simp only [List.cons_append, List.nil_append] at M))
  refine S_region (by kernel_rfl) ?_
  refine E_stage 0 5 [0, 1, 2, 3, 4] (by kernel_rfl) M.drew ?_
  clear M
  simp only [List.filterMap_cons, List.filterMap_nil, List.getElem?_cons_zero, List.getElem?_cons_succ]
  ((with_reducible apply E_run); rfl; rfl; (intro w M; go_simp; (try go_ints); (try simp only [↓IntWalk.iteOmega]); (try with_reducible rfl)); simp only [Act.put, List.setIfInBounds_toArray, List.set_cons_zero, List.set_cons_succ])
  ((with_reducible apply E_run); rfl; rfl; (intro w M; exact run_loadCell (M.r0) rfl (show (rwL (.slice (some ⟨b, 0, none⟩) 2 2) 1 false tv nilS (ad 2) (ad 1) 0 1 false).toArray[0]? = some (.slice (some ⟨b, 0, none⟩) 2 2) by rfl) Salg.underlying42 rfl); simp only [Act.put, List.setIfInBounds_toArray, List.set_cons_zero, List.set_cons_succ])
  ((with_reducible apply E_run); rfl; rfl; (intro w M; go_simp; (try go_ints); (try simp only [↓IntWalk.iteOmega]); (try with_reducible rfl)); simp only [Act.put, List.setIfInBounds_toArray, List.set_cons_zero, List.set_cons_succ])
  refine E_call rfl Salg.func107 (by kernel_rfl) (by kernel_rfl) (args := [n8 241, n8 2, n8 v]) rfl ?_
  intro w1 K M
  clear K
  refine (fwdC_code 2 v _ (by decide) hv).mono ?_
  rintro e w4 ⟨u0, rfl, xHX0, K⟩
  have HX0 := hid xHX0
  clear xHX0
  replace M := M.call K
  refine ⟨_, rfl, trivial, M, ?_⟩
  clear K
  simp only [Act.put, List.setIfInBounds_toArray, List.set_cons_zero, List.set_cons_succ]
  ((with_reducible apply E_run); rfl; rfl; (intro w M; go_simp; (try go_ints); (try simp only [↓IntWalk.iteOmega]); (try with_reducible rfl)); simp only [Act.put, List.setIfInBounds_toArray, List.set_cons_zero, List.set_cons_succ])
  refine E_nil ?_
  intro w9 K M
  replace HX0 := hid (HX0.out.kept K)
  clear K
  refine S_seg 5 6 (by kernel_rfl) (by decide) ?_
  simp only [List.take_succ_cons, List.take_zero, List.drop_zero, List.drop_succ_cons, Nat.sub_zero, Nat.reduceSub]
  go_wp2_with ((with_reducible apply W_stV (b := b) (o := 0) (v := u0)); rfl; rfl; exact HX0.out.one; exact M.r1; exact size40; exact (show 0 < 2 by decide); intro w5 K hr3; rw [show #[nilS, Value.slice (some ⟨pb, 0, none⟩) 19 19].setIfInBounds 0 u0 = #[u0, Value.slice (some ⟨pb, 0, none⟩) 19 19] from rfl] at hr3; replace HX0 := hid (HX0.out.keptC K M.r1 (by decide)); replace M := Mem.callPut (L1 := [_]) M (Or.inr hb) K hr3; clear K hr3; simp only [List.cons_append, List.nil_append] at M)
  refine S_done ?_
  go_wp2_with (first
    | ((with_reducible apply W_stP (b := t7) (o := 215) (n := 1) (v := n8 v) (rs := (rwL (.slice (some ⟨b, 0, none⟩) 2 2) 1 false tv nilS (ad 2) (ad 1) v 1 false).toArray)); rfl; rfl; exact M.r0; exact size5; kernel_rfl; exact oneL (l := [n8 v]) rfl; exact Nat.le_of_ble_eq_true (by kernel_rfl); kernel_rfl; intro w5 K hr3; replace HX0 := hid (HX0.out.keptC K M.r0 (by decide)); replace M := Mem.callPut (L1 := []) M (Or.inr ht7) K hr3; clear K hr3; simp only [List.cons_append, List.nil_append] at M)
    | ((with_reducible apply W_loadAll); rfl; exact M.r0; exact Salg.underlying69; rfl; exact (size69 _ _ _ _ _ _ _ _ _ _ rfl rfl); simp only [Act.put, List.setIfInBounds_toArray, List.set_cons_zero, List.set_cons_succ])
    | ((with_reducible apply W_storeK (b := t6) (vs := (rwL (.slice (some ⟨b, 0, none⟩) 2 2) 1 false tv nilS (ad 2) (ad 1) v 1 false).toArray)); rfl; rfl; exact M.r3; exact size69Z; kernel_rfl; exact oneT (rwL_one _ _ _ _ _ _ _ _ _ _ rfl rfl); intro w5 K hr3; replace HX0 := hid (HX0.out.keptC K M.r3 (by decide)); replace M := Mem.callPut (L1 := [_, _, _]) M (Or.inr ht6) K hr3; clear K hr3; simp only [List.cons_append, List.nil_append] at M))
  refine ret_cell1 Salg.results26 rfl M.r3 Salg.underlying69 rfl (size69 _ _ _ _ _ _ _ _ _ _ rfl rfl) rfl ?_
  exact ⟨_, rfl, ⟨b, _, _, rfl, M.r1, HX0.out, code_probe M.r2⟩, M.kept⟩

set_option maxHeartbeats 4000000 in
set_option maxRecDepth 100000 in
theorem way_2 (tv v : Nat) (w : World) : Calls Salg.prog 26 #[.int .u8 2, n8 tv, n8 v] w fun e w' => ∃ cs, e = .returned (.agg (rwL cs 1 false tv nilS (ad 1) (ad 240) tv 1 false).toArray) ∧ Codes2 w' cs (fwdO 2 244) probeL ∧ Kept [] w w' := by
  have M := Mem.start w []
  go_enter Salg.func26, Salg.ntmps26
  go_wp2_with ((with_reducible apply L_allocA (d := 6) M); exact zero69; clear M; intro t6 w1 ht6 M; simp only [Act.put, List.setIfInBounds_toArray, List.set_cons_zero, List.set_cons_succ])
  refine (probe_lit _).mono ?_
  rintro e w2 ⟨pb, rfl, xP, xN, K⟩
  have h6p : t6 < pb := Nat.lt_of_lt_of_le (lt_of_row M.r0) xN
  replace M := (M.call K).add xP (by intro p hp; simp at hp; subst hp; exact Nat.ne_of_gt h6p)
  clear K xP xN h6p
  go_wp2_with ((with_reducible apply W_buildN (vs := #[nilS, .slice (some ⟨pb, 0, none⟩) 19 19]) (e := 40) M); kernel_rfl; clear M; intro b w3 hb hb2 KB M; clear KB hb2; simp only [Act.put, List.setIfInBounds_toArray, List.set_cons_zero, List.set_cons_succ])
  refine (toA1_any _).mono ?_
  rintro e w2 ⟨rfl, K⟩
  replace M := M.call K
  clear K
  go_wp2_with fail
  refine (addrNo_any 2 _).mono ?_
  rintro e w2 ⟨rfl, K⟩
  replace M := M.call K
  clear K
  go_wp2_with fail
  refine (addrNo_any 1 _).mono ?_
  rintro e w2 ⟨rfl, K⟩
  replace M := M.call K
  clear K
  go_wp2_with (first
    | ((with_reducible apply W_buildV (v := .agg (rwL (.slice (some ⟨b, 0, none⟩) 2 2) 1 false 0 nilS (ad 2) (ad 1) 0 1 false).toArray)); kernel_rfl; simp only [Act.put, List.setIfInBounds_toArray, List.set_cons_zero, List.set_cons_succ])
    | ((with_reducible apply L_allocA (d := 7) M); exact zero69; clear M; intro t7 w1 ht7 M; simp only [Act.put, List.setIfInBounds_toArray, List.set_cons_zero, List.set_cons_succ])
    | ((with_reducible apply W_storeK (b := t7) (vs := (rwL (.slice (some ⟨b, 0, none⟩) 2 2) 1 false 0 nilS (ad 2) (ad 1) 0 1 false).toArray)); rfl; rfl; exact M.r0; exact size69Z; kernel_rfl; exact oneT (rwL_one _ _ _ _ _ _ _ _ _ _ rfl rfl); intro w5 K hr3; replace M := Mem.callPut (L1 := []) M (Or.inr ht7) K hr3; clear K hr3; simp only [List.cons_append, List.nil_append] at M)
    | ((with_reducible apply W_stP (b := t7) (o := 107) (n := 1) (v := n8 tv) (rs := (rwL (.slice (some ⟨b, 0, none⟩) 2 2) 1 false tv nilS (ad 2) (ad 1) 0 1 false).toArray)); rfl; rfl; exact M.r0; exact size5; kernel_rfl; exact oneL (l := [n8 tv]) rfl; exact Nat.le_of_ble_eq_true (by kernel_rfl); kernel_rfl; intro w5 K hr3; replace M := Mem.callPut (L1 := []) M (Or.inr ht7) K hr3; clear K hr3; simp only [List.cons_append, List.nil_append] at M))
  refine S_region (by kernel_rfl) ?_
  refine E_stage 0 4 [0, 1, 2, 3] (by kernel_rfl) M.drew ?_
  clear M
  simp only [List.filterMap_cons, List.filterMap_nil, List.getElem?_cons_zero, List.getElem?_cons_succ]
  ((with_reducible apply E_run); rfl; rfl; (intro w M; go_simp; (try go_ints); (try simp only [↓IntWalk.iteOmega]); (try with_reducible rfl)); simp only [Act.put, List.setIfInBounds_toArray, List.set_cons_zero, List.set_cons_succ])
  ((with_reducible apply E_run); rfl; rfl; (intro w M; exact run_loadCell (M.r0) rfl (show (rwL (.slice (some ⟨b, 0, none⟩) 2 2) 1 false tv nilS (ad 2) (ad 1) 0 1 false).toArray[0]? = some (.slice (some ⟨b, 0, none⟩) 2 2) by rfl) Salg.underlying42 rfl); simp only [Act.put, List.setIfInBounds_toArray, List.set_cons_zero, List.set_cons_succ])
  refine E_call rfl Salg.func107 (by kernel_rfl) (by kernel_rfl) (args := [n8 244, n8 2, n8 0]) rfl ?_
  intro w1 K M
  clear K
  refine (fwdO_code 2 244 _ (by decide) (by decide) (by decide)).mono ?_
  rintro e w4 ⟨u0, rfl, xHX0, K⟩
  have HX0 := hid xHX0
  clear xHX0
  replace M := M.call K
  refine ⟨_, rfl, trivial, M, ?_⟩
  clear K
  simp only [Act.put, List.setIfInBounds_toArray, List.set_cons_zero, List.set_cons_succ]
  ((with_reducible apply E_run); rfl; rfl; (intro w M; go_simp; (try go_ints); (try simp only [↓IntWalk.iteOmega]); (try with_reducible rfl)); simp only [Act.put, List.setIfInBounds_toArray, List.set_cons_zero, List.set_cons_succ])
  refine E_nil ?_
  intro w9 K M
  replace HX0 := hid (HX0.out.kept K)
  clear K
  refine S_seg 4 5 (by kernel_rfl) (by decide) ?_
  simp only [List.take_succ_cons, List.take_zero, List.drop_zero, List.drop_succ_cons, Nat.sub_zero, Nat.reduceSub]
  go_wp2_with ((with_reducible apply W_stV (b := b) (o := 0) (v := u0)); rfl; rfl; exact HX0.out.one; exact M.r1; exact size40; exact (show 0 < 2 by decide); intro w5 K hr3; rw [show #[nilS, Value.slice (some ⟨pb, 0, none⟩) 19 19].setIfInBounds 0 u0 = #[u0, Value.slice (some ⟨pb, 0, none⟩) 19 19] from rfl] at hr3; replace HX0 := hid (HX0.out.keptC K M.r1 (by decide)); replace M := Mem.callPut (L1 := [_]) M (Or.inr hb) K hr3; clear K hr3; simp only [List.cons_append, List.nil_append] at M)
  refine S_done ?_
  go_wp2_with fail
  refine (addrNo_any 1 _).mono ?_
  rintro e w2 ⟨rfl, K⟩
  replace HX0 := hid (HX0.out.kept K)
  replace M := M.call K
  clear K
  go_wp2_with ((with_reducible apply W_stP (b := t7) (o := 175) (n := 20) (v := A8 (ad 1)) (rs := (rwL (.slice (some ⟨b, 0, none⟩) 2 2) 1 false tv nilS (ad 1) (ad 1) 0 1 false).toArray)); rfl; rfl; exact M.r0; exact size45; kernel_rfl; exact oneL rfl; exact Nat.le_of_ble_eq_true (by kernel_rfl); kernel_rfl; intro w5 K hr3; replace HX0 := hid (HX0.out.keptC K M.r0 (by decide)); replace M := Mem.callPut (L1 := []) M (Or.inr ht7) K hr3; clear K hr3; simp only [List.cons_append, List.nil_append] at M)
  refine (sender_any _).mono ?_
  rintro e w2 ⟨rfl, K⟩
  replace HX0 := hid (HX0.out.kept K)
  replace M := M.call K
  clear K
  go_wp2_with (first
    | ((with_reducible apply W_stP (b := t7) (o := 195) (n := 20) (v := A8 (ad 240)) (rs := (rwL (.slice (some ⟨b, 0, none⟩) 2 2) 1 false tv nilS (ad 1) (ad 240) 0 1 false).toArray)); rfl; rfl; exact M.r0; exact size45; kernel_rfl; exact oneL rfl; exact Nat.le_of_ble_eq_true (by kernel_rfl); kernel_rfl; intro w5 K hr3; replace HX0 := hid (HX0.out.keptC K M.r0 (by decide)); replace M := Mem.callPut (L1 := []) M (Or.inr ht7) K hr3; clear K hr3; simp only [List.cons_append, List.nil_append] at M)
    | ((with_reducible apply W_stP (b := t7) (o := 215) (n := 1) (v := n8 tv) (rs := (rwL (.slice (some ⟨b, 0, none⟩) 2 2) 1 false tv nilS (ad 1) (ad 240) tv 1 false).toArray)); rfl; rfl; exact M.r0; exact size5; kernel_rfl; exact oneL (l := [n8 tv]) rfl; exact Nat.le_of_ble_eq_true (by kernel_rfl); kernel_rfl; intro w5 K hr3; replace HX0 := hid (HX0.out.keptC K M.r0 (by decide)); replace M := Mem.callPut (L1 := []) M (Or.inr ht7) K hr3; clear K hr3; simp only [List.cons_append, List.nil_append] at M)
    | ((with_reducible apply W_loadAll); rfl; exact M.r0; exact Salg.underlying69; rfl; exact (size69 _ _ _ _ _ _ _ _ _ _ rfl rfl); simp only [Act.put, List.setIfInBounds_toArray, List.set_cons_zero, List.set_cons_succ])
    | ((with_reducible apply W_storeK (b := t6) (vs := (rwL (.slice (some ⟨b, 0, none⟩) 2 2) 1 false tv nilS (ad 1) (ad 240) tv 1 false).toArray)); rfl; rfl; exact M.r3; exact size69Z; kernel_rfl; exact oneT (rwL_one _ _ _ _ _ _ _ _ _ _ rfl rfl); intro w5 K hr3; replace HX0 := hid (HX0.out.keptC K M.r3 (by decide)); replace M := Mem.callPut (L1 := [_, _, _]) M (Or.inr ht6) K hr3; clear K hr3; simp only [List.cons_append, List.nil_append] at M))
  refine ret_cell1 Salg.results26 rfl M.r3 Salg.underlying69 rfl (size69 _ _ _ _ _ _ _ _ _ _ rfl rfl) rfl ?_
  exact ⟨_, rfl, ⟨b, _, _, rfl, M.r1, HX0.out, code_probe M.r2⟩, M.kept⟩

set_option maxHeartbeats 4000000 in
set_option maxRecDepth 100000 in
theorem way_3 (tv v : Nat) (w : World) : Calls Salg.prog 26 #[.int .u8 3, n8 tv, n8 v] w fun e w' => ∃ cs, e = .returned (.agg (rwL cs 1 false tv nilS (ad 2) (ad 1) 0 1 true).toArray) ∧ Codes2 w' cs (fwdO 2 250) probeL ∧ Kept [] w w' := by
  have M := Mem.start w []
  go_enter Salg.func26, Salg.ntmps26
  go_wp2_with ((with_reducible apply L_allocA (d := 6) M); exact zero69; clear M; intro t6 w1 ht6 M; simp only [Act.put, List.setIfInBounds_toArray, List.set_cons_zero, List.set_cons_succ])
  refine (probe_lit _).mono ?_
  rintro e w2 ⟨pb, rfl, xP, xN, K⟩
  have h6p : t6 < pb := Nat.lt_of_lt_of_le (lt_of_row M.r0) xN
  replace M := (M.call K).add xP (by intro p hp; simp at hp; subst hp; exact Nat.ne_of_gt h6p)
  clear K xP xN h6p
  go_wp2_with ((with_reducible apply W_buildN (vs := #[nilS, .slice (some ⟨pb, 0, none⟩) 19 19]) (e := 40) M); kernel_rfl; clear M; intro b w3 hb hb2 KB M; clear KB hb2; simp only [Act.put, List.setIfInBounds_toArray, List.set_cons_zero, List.set_cons_succ])
  refine (toA1_any _).mono ?_
  rintro e w2 ⟨rfl, K⟩
  replace M := M.call K
  clear K
  go_wp2_with fail
  refine (addrNo_any 2 _).mono ?_
  rintro e w2 ⟨rfl, K⟩
  replace M := M.call K
  clear K
  go_wp2_with fail
  refine (addrNo_any 1 _).mono ?_
  rintro e w2 ⟨rfl, K⟩
  replace M := M.call K
  clear K
  go_wp2_with (first
    | ((with_reducible apply W_buildV (v := .agg (rwL (.slice (some ⟨b, 0, none⟩) 2 2) 1 false 0 nilS (ad 2) (ad 1) 0 1 false).toArray)); kernel_rfl; simp only [Act.put, List.setIfInBounds_toArray, List.set_cons_zero, List.set_cons_succ])
    | ((with_reducible apply L_allocA (d := 7) M); exact zero69; clear M; intro t7 w1 ht7 M; simp only [Act.put, List.setIfInBounds_toArray, List.set_cons_zero, List.set_cons_succ])
    | ((with_reducible apply W_storeK (b := t7) (vs := (rwL (.slice (some ⟨b, 0, none⟩) 2 2) 1 false 0 nilS (ad 2) (ad 1) 0 1 false).toArray)); rfl; rfl; exact M.r0; exact size69Z; kernel_rfl; exact oneT (rwL_one _ _ _ _ _ _ _ _ _ _ rfl rfl); intro w5 K hr3; replace M := Mem.callPut (L1 := []) M (Or.inr ht7) K hr3; clear K hr3; simp only [List.cons_append, List.nil_append] at M)
    | ((with_reducible apply W_stP (b := t7) (o := 107) (n := 1) (v := n8 tv) (rs := (rwL (.slice (some ⟨b, 0, none⟩) 2 2) 1 false tv nilS (ad 2) (ad 1) 0 1 false).toArray)); rfl; rfl; exact M.r0; exact size5; kernel_rfl; exact oneL (l := [n8 tv]) rfl; exact Nat.le_of_ble_eq_true (by kernel_rfl); kernel_rfl; intro w5 K hr3; replace M := Mem.callPut (L1 := []) M (Or.inr ht7) K hr3; clear K hr3; simp only [List.cons_append, List.nil_append] at M))
  refine S_region (by kernel_rfl) ?_
  refine E_stage 0 4 [0, 1, 2, 3] (by kernel_rfl) M.drew ?_
  clear M
  simp only [List.filterMap_cons, List.filterMap_nil, List.getElem?_cons_zero, List.getElem?_cons_succ]
  ((with_reducible apply E_run); rfl; rfl; (intro w M; go_simp; (try go_ints); (try simp only [↓IntWalk.iteOmega]); (try with_reducible rfl)); simp only [Act.put, List.setIfInBounds_toArray, List.set_cons_zero, List.set_cons_succ])
  ((with_reducible apply E_run); rfl; rfl; (intro w M; exact run_loadCell (M.r0) rfl (show (rwL (.slice (some ⟨b, 0, none⟩) 2 2) 1 false tv nilS (ad 2) (ad 1) 0 1 false).toArray[0]? = some (.slice (some ⟨b, 0, none⟩) 2 2) by rfl) Salg.underlying42 rfl); simp only [Act.put, List.setIfInBounds_toArray, List.set_cons_zero, List.set_cons_succ])
  refine E_call rfl Salg.func107 (by kernel_rfl) (by kernel_rfl) (args := [n8 250, n8 2, n8 0]) rfl ?_
  intro w1 K M
  clear K
  refine (fwdO_code 2 250 _ (by decide) (by decide) (by decide)).mono ?_
  rintro e w4 ⟨u0, rfl, xHX0, K⟩
  have HX0 := hid xHX0
  clear xHX0
  replace M := M.call K
  refine ⟨_, rfl, trivial, M, ?_⟩
  clear K
  simp only [Act.put, List.setIfInBounds_toArray, List.set_cons_zero, List.set_cons_succ]
  ((with_reducible apply E_run); rfl; rfl; (intro w M; go_simp; (try go_ints); (try simp only [↓IntWalk.iteOmega]); (try with_reducible rfl)); simp only [Act.put, List.setIfInBounds_toArray, List.set_cons_zero, List.set_cons_succ])
  refine E_nil ?_
  intro w9 K M
  replace HX0 := hid (HX0.out.kept K)
  clear K
  refine S_seg 4 5 (by kernel_rfl) (by decide) ?_
  simp only [List.take_succ_cons, List.take_zero, List.drop_zero, List.drop_succ_cons, Nat.sub_zero, Nat.reduceSub]
  go_wp2_with ((with_reducible apply W_stV (b := b) (o := 0) (v := u0)); rfl; rfl; exact HX0.out.one; exact M.r1; exact size40; exact (show 0 < 2 by decide); intro w5 K hr3; rw [show #[nilS, Value.slice (some ⟨pb, 0, none⟩) 19 19].setIfInBounds 0 u0 = #[u0, Value.slice (some ⟨pb, 0, none⟩) 19 19] from rfl] at hr3; replace HX0 := hid (HX0.out.keptC K M.r1 (by decide)); replace M := Mem.callPut (L1 := [_]) M (Or.inr hb) K hr3; clear K hr3; simp only [List.cons_append, List.nil_append] at M)
  refine S_done ?_
  go_wp2_with (first
    | ((with_reducible apply W_stP (b := t7) (o := 217) (n := 1) (v := .bool true) (rs := (rwL (.slice (some ⟨b, 0, none⟩) 2 2) 1 false tv nilS (ad 2) (ad 1) 0 1 true).toArray)); rfl; rfl; exact M.r0; exact size4; kernel_rfl; exact oneL (l := [.bool true]) rfl; exact Nat.le_of_ble_eq_true (by kernel_rfl); kernel_rfl; intro w5 K hr3; replace HX0 := hid (HX0.out.keptC K M.r0 (by decide)); replace M := Mem.callPut (L1 := []) M (Or.inr ht7) K hr3; clear K hr3; simp only [List.cons_append, List.nil_append] at M)
    | ((with_reducible apply W_loadAll); rfl; exact M.r0; exact Salg.underlying69; rfl; exact (size69 _ _ _ _ _ _ _ _ _ _ rfl rfl); simp only [Act.put, List.setIfInBounds_toArray, List.set_cons_zero, List.set_cons_succ])
    | ((with_reducible apply W_storeK (b := t6) (vs := (rwL (.slice (some ⟨b, 0, none⟩) 2 2) 1 false tv nilS (ad 2) (ad 1) 0 1 true).toArray)); rfl; rfl; exact M.r3; exact size69Z; kernel_rfl; exact oneT (rwL_one _ _ _ _ _ _ _ _ _ _ rfl rfl); intro w5 K hr3; replace HX0 := hid (HX0.out.keptC K M.r3 (by decide)); replace M := Mem.callPut (L1 := [_, _, _]) M (Or.inr ht6) K hr3; clear K hr3; simp only [List.cons_append, List.nil_append] at M))
  refine ret_cell1 Salg.results26 rfl M.r3 Salg.underlying69 rfl (size69 _ _ _ _ _ _ _ _ _ _ rfl rfl) rfl ?_
  exact ⟨_, rfl, ⟨b, _, _, rfl, M.r1, HX0.out, code_probe M.r2⟩, M.kept⟩
end Go.Proofs.YgcsalGreat

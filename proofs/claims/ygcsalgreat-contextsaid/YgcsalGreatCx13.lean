/-
  The cost of a call in a run of Context; writes at CALL; access.
-/
import Derived.Test.YgcsalGreatCx12
set_option linter.unusedSimpArgs false
set_option linter.unusedVariables false
namespace Go.Proofs.YgcsalGreat
open Go.RowKit Go.Own
theorem account_Y (c : Nat) (E : XEnv) (fr rt : Value) (la : List (List Nat)) (D : List AD) (d : AD) (a : List Nat) (w : World) (hC : ChY w c E fr rt la) (hv : AccD D w E.vz) (ha : a.length = 20) (hd : D.find? (fun x => x.adr == a) = some d) :
    Calls Salg.prog 85 #[.pointer (some ⟨c, 0, none⟩), A8 a] w fun e w' => ∃ nv bv cu : Value, e = .returned (.agg (⟨a, [nv, bv, cu, nilS]⟩ : Ac).cells.toArray) ∧ NumV w' nv d.N ∧ NumV w' bv d.B ∧ NatV w' cu d.ds ∧ Kept [] w w' := by
  obtain ⟨wz, c1, _⟩ := hC
  exact account_D c 119 _ E.vz D d a w c1 (chN_get _ _ _ _ (by decide)) hv ha hd
theorem access_Y (c i : Nat) (E : XEnv) (fr rt : Value) (la : List (List Nat)) (w : World) (hC : ChY w c E fr rt la) (hi : i < 256) (hn : ad i ∉ la) :
    Calls Salg.prog 242 #[.pointer (some ⟨c, 0, none⟩), A8 (ad i)] w fun e w' => ∃ r, e = .returned r ∧ NumV w' r 2600 ∧ Kept [] w w' := by
  obtain ⟨wz, c1, c2⟩ := hC
  exact access_false c 119 _ wz la (ad i) w c1 (chN_get _ _ _ _ (by decide)) c2 ⟨rfl, ad_small hi⟩ (by simpa using hn)
set_option maxHeartbeats 4000000 in
set_option maxRecDepth 100000 in
theorem reachY_call (ON OO IN IA V t A : Nat) (fb q m G : Nat) (fs0 : Array Value) (mc : Value) (ns : List Nat) (w : World) (hF : FrameQ w fb q fs0 m G (ns ++ [ON, OO, IN, IA, V, t, A]) mc) (hl : ns.length ≤ 30) (h1 : OO < 256 ^ 90) (h2 : ON < 256 ^ 90) (h3 : IA < 256 ^ 90) (h4 : IN < 256 ^ 90) :
    Calls Salg.prog 114 #[.pointer (some ⟨fb, q, none⟩), .int .u8 241] w fun e w' => ∃ r, e = .returned r ∧ NumV w' r (max (endN IA IN) (endN OO ON)) ∧ Kept [] w w' := by
  have M := Mem.start w []
  have HA3 := hid (fun w' (K : Kept [] w w') => arg_F fb q 3 IA m G fs0 mc (ns ++ [ON, OO, IN, IA, V, t, A]) w' (hF.kept K) (by simp) (by simp) (by simp; omega))
  have HA4 := hid (fun w' (K : Kept [] w w') => arg_F fb q 4 IN m G fs0 mc (ns ++ [ON, OO, IN, IA, V, t, A]) w' (hF.kept K) (by simp) (by simp) (by simp; omega))
  have HA5 := hid (fun w' (K : Kept [] w w') => arg_F fb q 5 OO m G fs0 mc (ns ++ [ON, OO, IN, IA, V, t, A]) w' (hF.kept K) (by simp) (by simp) (by simp; omega))
  have HA6 := hid (fun w' (K : Kept [] w w') => arg_F fb q 6 ON m G fs0 mc (ns ++ [ON, OO, IN, IA, V, t, A]) w' (hF.kept K) (by simp) (by simp) (by simp; omega))
  clear hF
  go_enter Salg.func114, Salg.ntmps114
  go_wp2_with fail
  refine (HA3.out _ M.kept).mono ?_
  rintro e w1 ⟨r0, rfl, xH0, K⟩
  have H0 := hid xH0
  replace M := M.call K
  clear K xH0
  go_wp2_with fail
  refine (HA4.out _ M.kept).mono ?_
  rintro e w2 ⟨r1, rfl, xH1, K⟩
  have H1 := hid xH1
  replace H0 := hid (H0.out.kept K)
  replace M := M.call K
  clear K xH1
  go_wp2_with fail
  refine (end_any r0 r1 IA IN _ H0.out H1.out (by omega) (by omega)).mono ?_
  rintro e w3 ⟨r2, rfl, xH2, K⟩
  have H2 := hid xH2
  replace M := M.call K
  clear K xH2
  go_wp2_with fail
  refine (HA5.out _ M.kept).mono ?_
  rintro e w4 ⟨r3, rfl, xH3, K⟩
  have H3 := hid xH3
  replace H2 := hid (H2.out.kept K)
  replace M := M.call K
  clear K xH3
  go_wp2_with fail
  refine (HA6.out _ M.kept).mono ?_
  rintro e w5 ⟨r4, rfl, xH4, K⟩
  have H4 := hid xH4
  replace H2 := hid (H2.out.kept K)
  replace H3 := hid (H3.out.kept K)
  replace M := M.call K
  clear K xH4
  go_wp2_with fail
  refine (end_any r3 r4 OO ON _ H3.out H4.out (by omega) (by omega)).mono ?_
  rintro e w6 ⟨r5, rfl, xH5, K⟩
  have H5 := hid xH5
  replace H2 := hid (H2.out.kept K)
  replace M := M.call K
  clear K xH5
  go_wp2_with fail
  refine (maxNat_any r2 r5 _ _ _ H2.out H5.out).mono ?_
  rintro e w7 ⟨r6, rfl, xH6, K⟩
  have H6 := hid xH6
  replace M := M.call K
  clear K xH6
  go_wp2_with fail
  go_ret
  exact ⟨_, rfl, H6.out, M.kept⟩

set_option maxHeartbeats 4000000 in
set_option maxRecDepth 100000 in
theorem reachY_static (fb q A B m G : Nat) (fs0 : Array Value) (mc : Value) (ns : List Nat) (w : World) (hF : FrameQ w fb q fs0 m G (ns ++ [0, 0, 0, 0, B, A]) mc) (hl : ns.length ≤ 30) :
    Calls Salg.prog 114 #[.pointer (some ⟨fb, q, none⟩), .int .u8 250] w fun e w' => ∃ r, e = .returned r ∧ NumV w' r 0 ∧ Kept [] w w' := by
  have M := Mem.start w []
  have HA2 := hid (fun w' (K : Kept [] w w') => arg_F fb q 2 0 m G fs0 mc (ns ++ [0, 0, 0, 0, B, A]) w' (hF.kept K) (by simp) (by simp) (by simp; omega))
  have HA3 := hid (fun w' (K : Kept [] w w') => arg_F fb q 3 0 m G fs0 mc (ns ++ [0, 0, 0, 0, B, A]) w' (hF.kept K) (by simp) (by simp) (by simp; omega))
  have HA4 := hid (fun w' (K : Kept [] w w') => arg_F fb q 4 0 m G fs0 mc (ns ++ [0, 0, 0, 0, B, A]) w' (hF.kept K) (by simp) (by simp) (by simp; omega))
  have HA5 := hid (fun w' (K : Kept [] w w') => arg_F fb q 5 0 m G fs0 mc (ns ++ [0, 0, 0, 0, B, A]) w' (hF.kept K) (by simp) (by simp) (by simp; omega))
  clear hF
  go_enter Salg.func114, Salg.ntmps114
  go_wp2_with fail
  refine (HA2.out _ M.kept).mono ?_
  rintro e w1 ⟨r0, rfl, xH0, K⟩
  have H0 := hid xH0
  replace M := M.call K
  clear K xH0
  go_wp2_with fail
  refine (HA3.out _ M.kept).mono ?_
  rintro e w2 ⟨r1, rfl, xH1, K⟩
  have H1 := hid xH1
  replace H0 := hid (H0.out.kept K)
  replace M := M.call K
  clear K xH1
  go_wp2_with fail
  refine (end_zero r0 r1 _ H1.out).mono ?_
  rintro e w3 ⟨r2, rfl, xH2, K⟩
  have H2 := hid xH2
  replace M := M.call K
  clear K xH2
  go_wp2_with fail
  refine (HA4.out _ M.kept).mono ?_
  rintro e w4 ⟨r3, rfl, xH3, K⟩
  have H3 := hid xH3
  replace H2 := hid (H2.out.kept K)
  replace M := M.call K
  clear K xH3
  go_wp2_with fail
  refine (HA5.out _ M.kept).mono ?_
  rintro e w5 ⟨r4, rfl, xH4, K⟩
  have H4 := hid xH4
  replace H2 := hid (H2.out.kept K)
  replace H3 := hid (H3.out.kept K)
  replace M := M.call K
  clear K xH4
  go_wp2_with fail
  refine (end_zero r3 r4 _ H4.out).mono ?_
  rintro e w6 ⟨r5, rfl, xH5, K⟩
  have H5 := hid xH5
  replace H2 := hid (H2.out.kept K)
  replace M := M.call K
  clear K xH5
  go_wp2_with fail
  refine (maxNat_zero r2 r5 _ H2.out H5.out).mono ?_
  rintro e w7 ⟨r6, rfl, xH6, K⟩
  have H6 := hid xH6
  replace M := M.call K
  clear K xH6
  go_wp2_with fail
  go_ret
  exact ⟨_, rfl, H6.out, M.kept⟩

set_option maxHeartbeats 4000000 in
set_option maxRecDepth 100000 in
theorem bareCostY_delegatecall (st f : Value) (C : Nat) (w : World) (hs : Calls Salg.prog 245 #[st, f, .int .u8 244] w fun e w' => ∃ r, e = .returned r ∧ NumV w' r C ∧ Kept [] w w') :
    Calls Salg.prog 217 #[st, f, .int .u8 244] w fun e w' => ∃ r, e = .returned r ∧ NumV w' r C ∧ Kept [] w w' := by
  have HS := hid hs
  clear hs
  go_enter Salg.func217, Salg.ntmps217
  go_wp2_with fail
  refine (family_delegatecall _).mono ?_
  rintro e w1 ⟨rfl, hw⟩
  replace hw := hw.symm
  subst hw
  go_wp2_with fail
  refine HS.out.mono ?_
  rintro e w2 ⟨r, rfl, xr, K⟩
  have HR := hid xr
  have HK := hid K
  clear xr K
  go_wp2_with fail
  go_ret
  exact ⟨_, rfl, HR.out, HK.out⟩
set_option maxHeartbeats 4000000 in
set_option maxRecDepth 100000 in
theorem bareCostY_staticcall (st f : Value) (C : Nat) (w : World) (hs : Calls Salg.prog 245 #[st, f, .int .u8 250] w fun e w' => ∃ r, e = .returned r ∧ NumV w' r C ∧ Kept [] w w') :
    Calls Salg.prog 217 #[st, f, .int .u8 250] w fun e w' => ∃ r, e = .returned r ∧ NumV w' r C ∧ Kept [] w w' := by
  have HS := hid hs
  clear hs
  go_enter Salg.func217, Salg.ntmps217
  go_wp2_with fail
  refine (family_staticcall _).mono ?_
  rintro e w1 ⟨rfl, hw⟩
  replace hw := hw.symm
  subst hw
  go_wp2_with fail
  refine HS.out.mono ?_
  rintro e w2 ⟨r, rfl, xr, K⟩
  have HR := hid xr
  have HK := hid K
  clear xr K
  go_wp2_with fail
  go_ret
  exact ⟨_, rfl, HR.out, HK.out⟩

set_option maxHeartbeats 4000000 in
set_option maxRecDepth 100000 in
theorem enterCostY_call (c AC V t A : Nat) (fb q m G : Nat) (E : XEnv) (fr rt : Value) (la : List (List Nat)) (D : List AD) (dt : AD) (fs0 : Array Value) (mc : Value) (w : World) (hF : FrameQ w fb q fs0 m G [0, 0, 0, 0, V, t, A] mc) (hT : TargetOK t) (hC : ChY w c E fr rt la) (hA : AccD D w E.vz) (hAC : AC < 1000000) (hV0 : V = 0)
    (hAcc : ∀ w', Kept [] w w' → Calls Salg.prog 242 #[.pointer (some ⟨c, 0, none⟩), A8 (ad t)] w' fun e w'' => ∃ r, e = .returned r ∧ NumV w'' r AC ∧ Kept [] w' w'') :
    Calls Salg.prog 245 #[.pointer (some ⟨c, 0, none⟩), .pointer (some ⟨fb, q, none⟩), .int .u8 241] w fun e w' => ∃ r, e = .returned r ∧ NumV w' r (AC) ∧ Kept [] w w' := by
  have M := Mem.start w []
  have HA1 := hid (fun w' (K : Kept [] w w') => arg_F fb q 1 t m G fs0 mc [0, 0, 0, 0, V, t, A] w' (hF.kept K) (by simp) (by simp) (by simp))
  have HA2 := hid (fun w' (K : Kept [] w w') => arg_F fb q 2 V m G fs0 mc [0, 0, 0, 0, V, t, A] w' (hF.kept K) (by simp) (by simp) (by simp))
  have HAC := hid hAcc
  have HT := hid hT
  clear hF hAcc hT hC hA 
  go_enter Salg.func245, Salg.ntmps245
  go_wp2_with fail
  refine (HA1.out _ M.kept).mono ?_
  rintro e w1 ⟨r0, rfl, xH0, K⟩
  have H0 := hid xH0
  replace M := M.call K
  clear K xH0
  go_wp2_with fail
  refine (HT.out.adr r0 _ H0.out).mono ?_
  rintro e w2 ⟨rfl, K⟩
  replace M := M.call K
  clear K
  go_wp2_with (first
    | ((with_reducible apply L_allocA M); exact zero45; clear M; intro t7 w3 ht7 M; simp only [Act.put, List.setIfInBounds_toArray, List.set_cons_zero, List.set_cons_succ])
    | ((with_reducible apply W_storeK (b := t7) (vs := ((ad t).map n8).toArray)); rfl; rfl; exact M.r0; exact size45; rfl; exact one8 _; intro w4 K hr3; replace M := Mem.callPut (L1 := []) M (Or.inr ht7) K hr3; clear K hr3; simp only [List.nil_append] at M))
  refine S_region (by kernel_rfl) ?_
  refine E_stage 0 6 [0, 1, 2, 3, 4, 5] (by kernel_rfl) M.drew ?_
  clear M
  simp only [List.filterMap_cons, List.filterMap_nil, List.getElem?_cons_zero, List.getElem?_cons_succ]
  ((with_reducible apply E_run); rfl; rfl; (intro w M; go_simp; (try go_ints); (try simp only [↓IntWalk.iteOmega]); (try with_reducible rfl)); simp only [Act.put, List.setIfInBounds_toArray, List.set_cons_zero, List.set_cons_succ])
  ((with_reducible apply E_run); rfl; rfl; (intro w M; go_simp; (try go_ints); (try simp only [↓IntWalk.iteOmega]); (try with_reducible rfl)); simp only [Act.put, List.setIfInBounds_toArray, List.set_cons_zero, List.set_cons_succ])
  ((with_reducible apply E_run); rfl; rfl; (intro w M; go_simp; (try go_ints); (try simp only [↓IntWalk.iteOmega]); (try with_reducible rfl)); simp only [Act.put, List.setIfInBounds_toArray, List.set_cons_zero, List.set_cons_succ])
  ((with_reducible apply E_run); rfl; rfl; (intro w M; exact run_loadAll M.r0 rfl Salg.underlying45 rfl size45); simp only [Act.put, List.setIfInBounds_toArray, List.set_cons_zero, List.set_cons_succ])
  refine E_call rfl Salg.func242 (by kernel_rfl) (by kernel_rfl) (args := [.pointer (some ⟨c, 0, none⟩), A8 (ad t)]) rfl ?_
  intro w1 K M
  clear K
  refine (HAC.out _ M.kept).mono ?_
  rintro e w5 ⟨r1, rfl, xH1, K⟩
  have H1 := hid xH1
  clear xH1
  replace M := M.call K
  refine ⟨_, rfl, trivial, M, ?_⟩
  clear K
  simp only [Act.put, List.setIfInBounds_toArray, List.set_cons_zero, List.set_cons_succ]
  ((with_reducible apply E_run); rfl; rfl; (intro w M; go_simp; (try go_ints); (try simp only [↓IntWalk.iteOmega]); (try with_reducible rfl)); simp only [Act.put, List.setIfInBounds_toArray, List.set_cons_zero, List.set_cons_succ])
  refine E_nil ?_
  intro w6 K M
  replace H1 := hid (H1.out.kept K)
  clear K
  refine S_done ?_
  go_wp2_with fail
  refine (HA2.out _ M.kept).mono ?_
  rintro e w7 ⟨r2, rfl, xH2, K⟩
  have H2 := hid xH2
  replace H1 := hid (H1.out.kept K)
  replace M := M.call K
  clear K xH2
  go_wp2_with fail
  refine (isZero_lit r2 V true (by simp; exact hV0) _ H2.out).mono ?_
  rintro e w8 ⟨rfl, K⟩
  replace H1 := hid (H1.out.kept K)
  replace M := M.call K
  clear K
  go_wp2_with fail
  go_ret
  exact ⟨_, rfl, H1.out, M.kept⟩

set_option maxHeartbeats 4000000 in
set_option maxRecDepth 100000 in
theorem enterCostY_call_v (c AC V t A : Nat) (fb q m G : Nat) (E : XEnv) (fr rt : Value) (la : List (List Nat)) (D : List AD) (dt : AD) (fs0 : Array Value) (mc : Value) (w : World) (hF : FrameQ w fb q fs0 m G [0, 0, 0, 0, V, t, A] mc) (hT : TargetOK t) (hC : ChY w c E fr rt la) (hA : AccD D w E.vz) (hAC : AC < 1000000) (hV0 : V ≠ 0) (hdt : D.find? (fun x => x.adr == ad t) = some dt) (hN : dt.N ≠ 0)
    (hAcc : ∀ w', Kept [] w w' → Calls Salg.prog 242 #[.pointer (some ⟨c, 0, none⟩), A8 (ad t)] w' fun e w'' => ∃ r, e = .returned r ∧ NumV w'' r AC ∧ Kept [] w' w'') :
    Calls Salg.prog 245 #[.pointer (some ⟨c, 0, none⟩), .pointer (some ⟨fb, q, none⟩), .int .u8 241] w fun e w' => ∃ r, e = .returned r ∧ NumV w' r (AC + 9000) ∧ Kept [] w w' := by
  have M := Mem.start w []
  have HA1 := hid (fun w' (K : Kept [] w w') => arg_F fb q 1 t m G fs0 mc [0, 0, 0, 0, V, t, A] w' (hF.kept K) (by simp) (by simp) (by simp))
  have HA2 := hid (fun w' (K : Kept [] w w') => arg_F fb q 2 V m G fs0 mc [0, 0, 0, 0, V, t, A] w' (hF.kept K) (by simp) (by simp) (by simp))
  have HCH := hid hC
  have HAD := hid hA
  have HDT := hid hdt
  have HAC := hid hAcc
  have HT := hid hT
  clear hF hAcc hT hC hA hdt
  go_enter Salg.func245, Salg.ntmps245
  go_wp2_with fail
  refine (HA1.out _ M.kept).mono ?_
  rintro e w1 ⟨r0, rfl, xH0, K⟩
  have H0 := hid xH0
  replace M := M.call K
  clear K xH0
  go_wp2_with fail
  refine (HT.out.adr r0 _ H0.out).mono ?_
  rintro e w2 ⟨rfl, K⟩
  replace M := M.call K
  clear K
  go_wp2_with (first
    | ((with_reducible apply L_allocA M); exact zero45; clear M; intro t7 w3 ht7 M; simp only [Act.put, List.setIfInBounds_toArray, List.set_cons_zero, List.set_cons_succ])
    | ((with_reducible apply W_storeK (b := t7) (vs := ((ad t).map n8).toArray)); rfl; rfl; exact M.r0; exact size45; rfl; exact one8 _; intro w4 K hr3; replace M := Mem.callPut (L1 := []) M (Or.inr ht7) K hr3; clear K hr3; simp only [List.nil_append] at M))
  refine S_region (by kernel_rfl) ?_
  refine E_stage 0 6 [0, 1, 2, 3, 4, 5] (by kernel_rfl) M.drew ?_
  clear M
  simp only [List.filterMap_cons, List.filterMap_nil, List.getElem?_cons_zero, List.getElem?_cons_succ]
  ((with_reducible apply E_run); rfl; rfl; (intro w M; go_simp; (try go_ints); (try simp only [↓IntWalk.iteOmega]); (try with_reducible rfl)); simp only [Act.put, List.setIfInBounds_toArray, List.set_cons_zero, List.set_cons_succ])
  ((with_reducible apply E_run); rfl; rfl; (intro w M; go_simp; (try go_ints); (try simp only [↓IntWalk.iteOmega]); (try with_reducible rfl)); simp only [Act.put, List.setIfInBounds_toArray, List.set_cons_zero, List.set_cons_succ])
  ((with_reducible apply E_run); rfl; rfl; (intro w M; go_simp; (try go_ints); (try simp only [↓IntWalk.iteOmega]); (try with_reducible rfl)); simp only [Act.put, List.setIfInBounds_toArray, List.set_cons_zero, List.set_cons_succ])
  ((with_reducible apply E_run); rfl; rfl; (intro w M; exact run_loadAll M.r0 rfl Salg.underlying45 rfl size45); simp only [Act.put, List.setIfInBounds_toArray, List.set_cons_zero, List.set_cons_succ])
  refine E_call rfl Salg.func242 (by kernel_rfl) (by kernel_rfl) (args := [.pointer (some ⟨c, 0, none⟩), A8 (ad t)]) rfl ?_
  intro w1 K M
  clear K
  refine (HAC.out _ M.kept).mono ?_
  rintro e w5 ⟨r1, rfl, xH1, K⟩
  have H1 := hid xH1
  clear xH1
  replace M := M.call K
  refine ⟨_, rfl, trivial, M, ?_⟩
  clear K
  simp only [Act.put, List.setIfInBounds_toArray, List.set_cons_zero, List.set_cons_succ]
  ((with_reducible apply E_run); rfl; rfl; (intro w M; go_simp; (try go_ints); (try simp only [↓IntWalk.iteOmega]); (try with_reducible rfl)); simp only [Act.put, List.setIfInBounds_toArray, List.set_cons_zero, List.set_cons_succ])
  refine E_nil ?_
  intro w6 K M
  replace H1 := hid (H1.out.kept K)
  clear K
  refine S_done ?_
  go_wp2_with fail
  refine (HA2.out _ M.kept).mono ?_
  rintro e w7 ⟨r2, rfl, xH2, K⟩
  have H2 := hid xH2
  replace H1 := hid (H1.out.kept K)
  replace M := M.call K
  clear K xH2
  go_wp2_with fail
  refine (isZero_lit r2 V false (by simp; exact hV0) _ H2.out).mono ?_
  rintro e w8 ⟨rfl, K⟩
  replace H1 := hid (H1.out.kept K)
  replace M := M.call K
  clear K
  go_wp2_with fail
  refine (num_int _ 9000 rfl (by decide) _).mono ?_
  rintro e w9 ⟨r3, rfl, xH3, K⟩
  have H3 := hid xH3
  replace H1 := hid (H1.out.kept K)
  replace M := M.call K
  clear K xH3
  go_wp2_with fail
  refine (add_num r1 r3 AC 9000 _ H1.out H3.out (Nat.lt_of_lt_of_le hAC (by decide)) (by decide)).mono ?_
  rintro e w10 ⟨r4, rfl, xH4, K⟩
  have H4 := hid xH4
  replace M := M.call K
  clear K xH4
  go_wp2_with fail
  obtain ⟨wz, c1, _⟩ := HCH.out.kept M.kept
  refine S_region (by kernel_rfl) ?_
  replace H4 := hid (H4.out.kept (Kept.refl [] _).drew)
  refine E_float 0 6 [0, 1, 2, 3, 4] 5 9 _ (by kernel_rfl) ⟨⟨_, _, _, _, _, rfl, zero128, rfl⟩⟩ (by simp) M.drew ?_
  have HMK := hid M.kept
  clear M
  simp only [List.filterMap_cons, List.filterMap_nil, List.getElem?_cons_zero, List.getElem?_cons_succ]
  ((with_reducible apply E_run); rfl; rfl; (intro w M; go_simp; (try go_ints); (try simp only [↓IntWalk.iteOmega]); (try with_reducible rfl)); simp only [Act.put, List.setIfInBounds_toArray, List.set_cons_zero, List.set_cons_succ])
  ((with_reducible apply E_run); rfl; rfl; (intro w M; go_simp; (try go_ints); (try simp only [↓IntWalk.iteOmega]); (try with_reducible rfl)); simp only [Act.put, List.setIfInBounds_toArray, List.set_cons_zero, List.set_cons_succ])
  ((with_reducible apply E_run); rfl; rfl; (intro w M; go_simp; (try go_ints); (try simp only [↓IntWalk.iteOmega]); (try with_reducible rfl)); simp only [Act.put, List.setIfInBounds_toArray, List.set_cons_zero, List.set_cons_succ])
  ((with_reducible apply E_run); rfl; rfl; (intro w M; exact run_loadAll M.r0 rfl Salg.underlying45 rfl size45); simp only [Act.put, List.setIfInBounds_toArray, List.set_cons_zero, List.set_cons_succ])
  refine E_call rfl Salg.func85 (by kernel_rfl) (by kernel_rfl) (args := [.pointer (some ⟨c, 0, none⟩), A8 (ad t)]) rfl ?_
  intro w1 K M
  replace H4 := hid (H4.out.kept K)
  clear K
  refine (account_Y c E fr rt la D dt (ad t) _ (HCH.out.kept M.kept) ((AccD.still D).kept HAD.out M.kept) rfl HDT.out).mono ?_
  rintro e w17 ⟨nva, bva, cua, rfl, xHNV, xHBV, xHCU, K⟩
  have HNV := hid xHNV
  have HBV := hid xHBV
  have HCU := hid xHCU
  clear xHNV xHBV xHCU
  replace H4 := hid (H4.out.kept K)
  replace M := M.call K
  refine ⟨_, rfl, K.mono (by simp), M, ?_⟩
  clear K
  simp only [Act.put, List.setIfInBounds_toArray, List.set_cons_zero, List.set_cons_succ]
  refine E_nil ?_
  intro w18 K M
  replace H4 := hid (H4.out.kept K)
  replace HNV := hid (HNV.out.kept K)
  clear K
  have HN1 := hid HNV.out.one
  have HB1 := hid HBV.out.one
  have HC1 := hid HCU.out.one
  intro t9 w19 K ht9 M
  replace H4 := hid (H4.out.kept K)
  replace HNV := hid (HNV.out.kept K)
  clear K
  simp only [Act.put, List.setIfInBounds_toArray, List.set_cons_zero, List.set_cons_succ]
  refine S_seg 6 7 (by kernel_rfl) (by decide) ?_
  simp only [List.take_succ_cons, List.take_zero, List.drop_zero, List.drop_succ_cons, Nat.sub_zero, Nat.reduceSub]
  have HQ : Hid ((⟨ad t, [nva, bva, cua, nilS]⟩ : Ac).Ok) := ⟨rfl, rfl, (by
    intro u hu
    simp only [List.mem_cons, List.not_mem_nil, or_false] at hu
    rcases hu with rfl | rfl | rfl | rfl
    · exact HN1.out
    · exact HB1.out
    · exact HC1.out
    · rfl), ad_small HT.out.lt⟩
  go_wp2_with ((with_reducible apply W_storeK (b := t9) (vs := (⟨ad t, [nva, bva, cua, nilS]⟩ : Ac).cells.toArray)); rfl; rfl; exact M.r0; exact size128; rfl; exact HQ.out.one; intro w20 K hr3; replace H4 := hid (H4.out.keptC K M.r0 (not_bytes_at (i := 23) (p := none) (n := 0) (m := 0) (by kernel_rfl))); replace HNV := hid (HNV.out.keptC K M.r0 (not_bytes_at (i := 23) (p := none) (n := 0) (m := 0) (by kernel_rfl))); replace M := Mem.callPut (L1 := []) M (Or.inr ht9) K hr3; clear K hr3; simp only [List.nil_append] at M)
  refine S_done ?_
  go_wp2_with fail
  refine (empty_no t9 ⟨ad t, [nva, bva, cua, nilS]⟩ nva dt.N _ M.r0 HQ.out rfl HNV.out hN).mono ?_
  rintro e w21 ⟨rfl, K⟩
  replace H4 := hid (H4.out.kept K)
  replace M := M.call K
  clear K
  go_wp2_with fail
  go_ret
  exact ⟨_, rfl, H4.out, M.kept⟩

set_option maxHeartbeats 4000000 in
set_option maxRecDepth 100000 in
theorem enterCostY_delegatecall (c AC V t A : Nat) (fb q m G : Nat) (E : XEnv) (fr rt : Value) (la : List (List Nat)) (D : List AD) (dt : AD) (fs0 : Array Value) (mc : Value) (w : World) (hF : FrameQ w fb q fs0 m G [0, 0, 0, 0, t, A] mc) (hT : TargetOK t) (hC : ChY w c E fr rt la) (hA : AccD D w E.vz) (hAC : AC < 1000000)
    (hAcc : ∀ w', Kept [] w w' → Calls Salg.prog 242 #[.pointer (some ⟨c, 0, none⟩), A8 (ad t)] w' fun e w'' => ∃ r, e = .returned r ∧ NumV w'' r AC ∧ Kept [] w' w'') :
    Calls Salg.prog 245 #[.pointer (some ⟨c, 0, none⟩), .pointer (some ⟨fb, q, none⟩), .int .u8 244] w fun e w' => ∃ r, e = .returned r ∧ NumV w' r (AC) ∧ Kept [] w w' := by
  have M := Mem.start w []
  have HA1 := hid (fun w' (K : Kept [] w w') => arg_F fb q 1 t m G fs0 mc [0, 0, 0, 0, t, A] w' (hF.kept K) (by simp) (by simp) (by simp))
  have HAC := hid hAcc
  have HT := hid hT
  clear hF hAcc hT hC hA 
  go_enter Salg.func245, Salg.ntmps245
  go_wp2_with fail
  refine (HA1.out _ M.kept).mono ?_
  rintro e w1 ⟨r0, rfl, xH0, K⟩
  have H0 := hid xH0
  replace M := M.call K
  clear K xH0
  go_wp2_with fail
  refine (HT.out.adr r0 _ H0.out).mono ?_
  rintro e w2 ⟨rfl, K⟩
  replace M := M.call K
  clear K
  go_wp2_with (first
    | ((with_reducible apply L_allocA M); exact zero45; clear M; intro t7 w3 ht7 M; simp only [Act.put, List.setIfInBounds_toArray, List.set_cons_zero, List.set_cons_succ])
    | ((with_reducible apply W_storeK (b := t7) (vs := ((ad t).map n8).toArray)); rfl; rfl; exact M.r0; exact size45; rfl; exact one8 _; intro w4 K hr3; replace M := Mem.callPut (L1 := []) M (Or.inr ht7) K hr3; clear K hr3; simp only [List.nil_append] at M))
  refine S_region (by kernel_rfl) ?_
  refine E_stage 0 6 [0, 1, 2, 3, 4, 5] (by kernel_rfl) M.drew ?_
  clear M
  simp only [List.filterMap_cons, List.filterMap_nil, List.getElem?_cons_zero, List.getElem?_cons_succ]
  ((with_reducible apply E_run); rfl; rfl; (intro w M; go_simp; (try go_ints); (try simp only [↓IntWalk.iteOmega]); (try with_reducible rfl)); simp only [Act.put, List.setIfInBounds_toArray, List.set_cons_zero, List.set_cons_succ])
  ((with_reducible apply E_run); rfl; rfl; (intro w M; go_simp; (try go_ints); (try simp only [↓IntWalk.iteOmega]); (try with_reducible rfl)); simp only [Act.put, List.setIfInBounds_toArray, List.set_cons_zero, List.set_cons_succ])
  ((with_reducible apply E_run); rfl; rfl; (intro w M; go_simp; (try go_ints); (try simp only [↓IntWalk.iteOmega]); (try with_reducible rfl)); simp only [Act.put, List.setIfInBounds_toArray, List.set_cons_zero, List.set_cons_succ])
  ((with_reducible apply E_run); rfl; rfl; (intro w M; exact run_loadAll M.r0 rfl Salg.underlying45 rfl size45); simp only [Act.put, List.setIfInBounds_toArray, List.set_cons_zero, List.set_cons_succ])
  refine E_call rfl Salg.func242 (by kernel_rfl) (by kernel_rfl) (args := [.pointer (some ⟨c, 0, none⟩), A8 (ad t)]) rfl ?_
  intro w1 K M
  clear K
  refine (HAC.out _ M.kept).mono ?_
  rintro e w5 ⟨r1, rfl, xH1, K⟩
  have H1 := hid xH1
  clear xH1
  replace M := M.call K
  refine ⟨_, rfl, trivial, M, ?_⟩
  clear K
  simp only [Act.put, List.setIfInBounds_toArray, List.set_cons_zero, List.set_cons_succ]
  ((with_reducible apply E_run); rfl; rfl; (intro w M; go_simp; (try go_ints); (try simp only [↓IntWalk.iteOmega]); (try with_reducible rfl)); simp only [Act.put, List.setIfInBounds_toArray, List.set_cons_zero, List.set_cons_succ])
  refine E_nil ?_
  intro w6 K M
  replace H1 := hid (H1.out.kept K)
  clear K
  refine S_done ?_
  go_wp2_with fail
  go_ret
  exact ⟨_, rfl, H1.out, M.kept⟩

set_option maxHeartbeats 4000000 in
set_option maxRecDepth 100000 in
theorem enterCostY_staticcall (c AC V t A : Nat) (fb q m G : Nat) (E : XEnv) (fr rt : Value) (la : List (List Nat)) (D : List AD) (dt : AD) (fs0 : Array Value) (mc : Value) (w : World) (hF : FrameQ w fb q fs0 m G [0, 0, 0, 0, t, A] mc) (hT : TargetOK t) (hC : ChY w c E fr rt la) (hA : AccD D w E.vz) (hAC : AC < 1000000)
    (hAcc : ∀ w', Kept [] w w' → Calls Salg.prog 242 #[.pointer (some ⟨c, 0, none⟩), A8 (ad t)] w' fun e w'' => ∃ r, e = .returned r ∧ NumV w'' r AC ∧ Kept [] w' w'') :
    Calls Salg.prog 245 #[.pointer (some ⟨c, 0, none⟩), .pointer (some ⟨fb, q, none⟩), .int .u8 250] w fun e w' => ∃ r, e = .returned r ∧ NumV w' r (AC) ∧ Kept [] w w' := by
  have M := Mem.start w []
  have HA1 := hid (fun w' (K : Kept [] w w') => arg_F fb q 1 t m G fs0 mc [0, 0, 0, 0, t, A] w' (hF.kept K) (by simp) (by simp) (by simp))
  have HAC := hid hAcc
  have HT := hid hT
  clear hF hAcc hT hC hA 
  go_enter Salg.func245, Salg.ntmps245
  go_wp2_with fail
  refine (HA1.out _ M.kept).mono ?_
  rintro e w1 ⟨r0, rfl, xH0, K⟩
  have H0 := hid xH0
  replace M := M.call K
  clear K xH0
  go_wp2_with fail
  refine (HT.out.adr r0 _ H0.out).mono ?_
  rintro e w2 ⟨rfl, K⟩
  replace M := M.call K
  clear K
  go_wp2_with (first
    | ((with_reducible apply L_allocA M); exact zero45; clear M; intro t7 w3 ht7 M; simp only [Act.put, List.setIfInBounds_toArray, List.set_cons_zero, List.set_cons_succ])
    | ((with_reducible apply W_storeK (b := t7) (vs := ((ad t).map n8).toArray)); rfl; rfl; exact M.r0; exact size45; rfl; exact one8 _; intro w4 K hr3; replace M := Mem.callPut (L1 := []) M (Or.inr ht7) K hr3; clear K hr3; simp only [List.nil_append] at M))
  refine S_region (by kernel_rfl) ?_
  refine E_stage 0 6 [0, 1, 2, 3, 4, 5] (by kernel_rfl) M.drew ?_
  clear M
  simp only [List.filterMap_cons, List.filterMap_nil, List.getElem?_cons_zero, List.getElem?_cons_succ]
  ((with_reducible apply E_run); rfl; rfl; (intro w M; go_simp; (try go_ints); (try simp only [↓IntWalk.iteOmega]); (try with_reducible rfl)); simp only [Act.put, List.setIfInBounds_toArray, List.set_cons_zero, List.set_cons_succ])
  ((with_reducible apply E_run); rfl; rfl; (intro w M; go_simp; (try go_ints); (try simp only [↓IntWalk.iteOmega]); (try with_reducible rfl)); simp only [Act.put, List.setIfInBounds_toArray, List.set_cons_zero, List.set_cons_succ])
  ((with_reducible apply E_run); rfl; rfl; (intro w M; go_simp; (try go_ints); (try simp only [↓IntWalk.iteOmega]); (try with_reducible rfl)); simp only [Act.put, List.setIfInBounds_toArray, List.set_cons_zero, List.set_cons_succ])
  ((with_reducible apply E_run); rfl; rfl; (intro w M; exact run_loadAll M.r0 rfl Salg.underlying45 rfl size45); simp only [Act.put, List.setIfInBounds_toArray, List.set_cons_zero, List.set_cons_succ])
  refine E_call rfl Salg.func242 (by kernel_rfl) (by kernel_rfl) (args := [.pointer (some ⟨c, 0, none⟩), A8 (ad t)]) rfl ?_
  intro w1 K M
  clear K
  refine (HAC.out _ M.kept).mono ?_
  rintro e w5 ⟨r1, rfl, xH1, K⟩
  have H1 := hid xH1
  clear xH1
  replace M := M.call K
  refine ⟨_, rfl, trivial, M, ?_⟩
  clear K
  simp only [Act.put, List.setIfInBounds_toArray, List.set_cons_zero, List.set_cons_succ]
  ((with_reducible apply E_run); rfl; rfl; (intro w M; go_simp; (try go_ints); (try simp only [↓IntWalk.iteOmega]); (try with_reducible rfl)); simp only [Act.put, List.setIfInBounds_toArray, List.set_cons_zero, List.set_cons_succ])
  refine E_nil ?_
  intro w6 K M
  replace H1 := hid (H1.out.kept K)
  clear K
  refine S_done ?_
  go_wp2_with fail
  go_ret
  exact ⟨_, rfl, H1.out, M.kept⟩

set_option maxHeartbeats 4000000 in
set_option maxRecDepth 100000 in
theorem writes_call (fb q m G V t A : Nat) (fs0 : Array Value) (mc : Value) (w : World) (hF : FrameQ w fb q fs0 m G [0, 0, 0, 0, V, t, A] mc) (hV : V = 0) : Calls Salg.prog 182 #[.pointer (some ⟨fb, q, none⟩), .int .u8 241] w fun e w' => e = .returned (.bool false) ∧ Kept [] w w' := by
  have M := Mem.start w []
  have HA2 := hid (fun w' (K : Kept [] w w') => arg_F fb q 2 V m G fs0 mc [0, 0, 0, 0, V, t, A] w' (hF.kept K) (by simp) (by simp) (by simp))
  clear hF
  go_enter Salg.func182, Salg.ntmps182
  go_wp2_with fail
  refine (HA2.out _ M.kept).mono ?_
  rintro e w1 ⟨r0, rfl, xH0, K⟩
  have H0 := hid xH0
  replace M := M.call K
  clear K xH0
  go_wp2_with fail
  refine (isZero_lit r0 V true (by simp; exact hV) _ H0.out).mono ?_
  rintro e w2 ⟨rfl, K⟩
  replace M := M.call K
  clear K
  go_wp2_with fail
  go_ret
  exact ⟨rfl, M.kept⟩
set_option maxHeartbeats 4000000 in
set_option maxRecDepth 100000 in
theorem refusalT_call (st : Value) (fb q m G C : Nat) (fs0 : Array Value) (cv mc : Value) (ns : List Nat) (w : World) (hF : FrameQ w fb q fs0 m G ns mc) (hf : FrB fs0 q true cv) (hn : 7 ≤ ns.length) (hn2 : ns.length ≤ 40) (hCG : C ≤ G)
    (hW : ∀ w', Kept [] w w' → Calls Salg.prog 182 #[.pointer (some ⟨fb, q, none⟩), .int .u8 241] w' fun e w'' => e = .returned (.bool false) ∧ Kept [] w' w'')
    (hC : ∀ w', Kept [] w w' → Calls Salg.prog 183 #[st, .pointer (some ⟨fb, q, none⟩), .int .u8 241] w' fun e w'' => ∃ r, e = .returned r ∧ NumV w'' r C ∧ Kept [] w' w'') :
    Calls Salg.prog 111 #[st, .pointer (some ⟨fb, q, none⟩), .int .u8 241] w fun e w' => ∃ r, e = .returned (.tuple #[.int .u8 0, r]) ∧ NumV w' r C ∧ Kept [] w w' := by
  have M := Mem.start w []
  obtain ⟨fs, pv, gv, sv, xs, hr, hsz, hfs, h3, hpv, h4, hgv, h8, hsv, hxs, hmv⟩ := hF
  have hxl := hxs.1
  obtain ⟨p, n, cp, rfl⟩ := rowV_slice hsv
  obtain rfl : n = xs.length := by
    rcases hsv with ⟨e, e2⟩ | ⟨g, cap, cur, e, _⟩
    · cases e; subst e2; rfl
    · cases e; rfl
  have h2 := (hfs (q + 2) (by omega) (by omega) (by omega) (by omega)).trans hf.f2
  have HG := hid hgv
  have HC := hid hC
  have HW := hid hW
  have d1 : decide ((xs.length : Int) < (7 : Int)) = false := by simp <;> omega
  have d2 : decide ((64 : Int) < (xs.length : Int) - (7 : Int) + (1 : Int)) = false := by simp; omega
  have d3 : decide ((64 : Int) < (xs.length : Int) - (7 : Int)) = false := by simp; omega
  have d4 : decide ((64 : Int) < (xs.length : Int)) = false := by simp; omega
  have d5 : decide ((xs.length : Int) < 0) = false := by simp
  clear hgv hC hW hfs hsv hxs hpv hf hsz hmv h3
  go_enter Salg.func111, Salg.ntmps111
  go_wp2_with fail
  refine (arity_call _).mono ?_
  rintro e w1 ⟨rfl, hw⟩
  replace hw := hw.symm
  subst hw
  go_wp2_with (first
    | ((with_reducible apply W_loadCell); rfl; exact M.kept.row hr (by simp); exact h8; exact Salg.underlying140; rfl; simp only [Act.put, List.setIfInBounds_toArray, List.set_cons_zero, List.set_cons_succ])
    | ((with_reducible apply W_loadCell); rfl; exact M.kept.row hr (by simp); exact h2; exact Salg.underlying4; rfl; simp only [Act.put, List.setIfInBounds_toArray, List.set_cons_zero, List.set_cons_succ]))
  refine (HW.out _ M.kept).mono ?_
  rintro e w1 ⟨rfl, K⟩
  replace M := M.call K
  clear K
  go_wp2_with fail
  refine S_region (by kernel_rfl) ?_
  refine E_stage 0 19 [0, 1, 2, 3, 5, 8, 9, 10, 11, 12, 13, 4, 6, 7, 14, 15, 16, 17, 18] (by kernel_rfl) M.drew ?_
  clear M
  simp only [List.filterMap_cons, List.filterMap_nil, List.getElem?_cons_zero, List.getElem?_cons_succ]
  ((with_reducible apply E_run); rfl; rfl; (intro w M; go_simp; (try go_ints); (try simp only [↓IntWalk.iteOmega]); (try with_reducible rfl)); simp only [Act.put, List.setIfInBounds_toArray, List.set_cons_zero, List.set_cons_succ])
  ((with_reducible apply E_run); rfl; rfl; (intro w M; go_simp; (try go_ints); (try simp only [↓IntWalk.iteOmega]); (try with_reducible rfl)); simp only [Act.put, List.setIfInBounds_toArray, List.set_cons_zero, List.set_cons_succ])
  ((with_reducible apply E_run); rfl; rfl; (intro w M; go_simp; (try go_ints); (try simp only [↓IntWalk.iteOmega]); (try with_reducible rfl)); simp only [Act.put, List.setIfInBounds_toArray, List.set_cons_zero, List.set_cons_succ])
  ((with_reducible apply E_no); rfl; simp only [Act.put, List.setIfInBounds_toArray, List.set_cons_zero, List.set_cons_succ])
  ((with_reducible apply E_no); rfl; simp only [Act.put, List.setIfInBounds_toArray, List.set_cons_zero, List.set_cons_succ])
  ((with_reducible apply E_no); rfl; simp only [Act.put, List.setIfInBounds_toArray, List.set_cons_zero, List.set_cons_succ])
  ((with_reducible apply E_no); rfl; simp only [Act.put, List.setIfInBounds_toArray, List.set_cons_zero, List.set_cons_succ])
  ((with_reducible apply E_no); rfl; simp only [Act.put, List.setIfInBounds_toArray, List.set_cons_zero, List.set_cons_succ])
  ((with_reducible apply E_no); rfl; simp only [Act.put, List.setIfInBounds_toArray, List.set_cons_zero, List.set_cons_succ])
  ((with_reducible apply E_no); rfl; simp only [Act.put, List.setIfInBounds_toArray, List.set_cons_zero, List.set_cons_succ])
  ((with_reducible apply E_no); rfl; simp only [Act.put, List.setIfInBounds_toArray, List.set_cons_zero, List.set_cons_succ])
  ((with_reducible apply E_no); rfl; simp only [Act.put, List.setIfInBounds_toArray, List.set_cons_zero, List.set_cons_succ])
  ((with_reducible apply E_no); rfl; simp only [Act.put, List.setIfInBounds_toArray, List.set_cons_zero, List.set_cons_succ])
  ((with_reducible apply E_no); rfl; simp only [Act.put, List.setIfInBounds_toArray, List.set_cons_zero, List.set_cons_succ])
  ((with_reducible apply E_no); rfl; simp only [Act.put, List.setIfInBounds_toArray, List.set_cons_zero, List.set_cons_succ])
  ((with_reducible apply E_no); rfl; simp only [Act.put, List.setIfInBounds_toArray, List.set_cons_zero, List.set_cons_succ])
  ((with_reducible apply E_no); rfl; simp only [Act.put, List.setIfInBounds_toArray, List.set_cons_zero, List.set_cons_succ])
  ((with_reducible apply E_run); rfl; rfl; (intro w M; go_simp; (try go_ints); (try simp only [↓IntWalk.iteOmega]); (try with_reducible rfl)); simp only [Act.put, List.setIfInBounds_toArray, List.set_cons_zero, List.set_cons_succ])
  ((with_reducible apply E_run); rfl; rfl; (intro w M; go_simp; (try go_ints); (try simp only [↓IntWalk.iteOmega]); (try with_reducible rfl)); simp only [Act.put, List.setIfInBounds_toArray, List.set_cons_zero, List.set_cons_succ])
  refine E_nil ?_
  intro w9 K M
  clear K
  refine S_done ?_
  go_wp2_with fail
  refine (HC.out _ M.kept).mono ?_
  rintro e w2 ⟨r, rfl, xHR, K⟩
  have HR := hid xHR
  replace M := M.call K
  clear K xHR
  go_wp2_with ((with_reducible apply W_loadCell); rfl; exact M.kept.row hr (by simp); exact h4; exact Salg.underlying89; rfl; simp only [Act.put, List.setIfInBounds_toArray, List.set_cons_zero, List.set_cons_succ])
  refine (cmp_num r gv C G _ HR.out (HG.out.kept M.kept)).mono ?_
  rintro e w3 ⟨rfl, K⟩
  replace HR := hid (HR.out.kept K)
  replace M := M.call K
  clear K
  have hz : decide ((0 : Int) < cmpI C G) = false := by
    unfold cmpI
    split
    · rfl
    · rw [if_neg (by omega)]; rfl
  go_wp2_with fail
  refine S_region (by kernel_rfl) ?_
  replace HR := hid (HR.out.kept (Kept.refl [] _).drew)
  refine E_stage 0 12 [0, 1, 2, 3, 4, 5, 6, 7, 8, 9, 10, 11] (by kernel_rfl) M.drew ?_
  clear M
  simp only [List.filterMap_cons, List.filterMap_nil, List.getElem?_cons_zero, List.getElem?_cons_succ]
  ((with_reducible apply E_run); rfl; rfl; (intro w M; go_simp; (try go_ints); (try simp only [↓IntWalk.iteOmega]); (try with_reducible rfl)); simp only [Act.put, List.setIfInBounds_toArray, List.set_cons_zero, List.set_cons_succ])
  ((with_reducible apply E_run); rfl; rfl; (intro w M; go_simp; (try go_ints); (try simp only [↓IntWalk.iteOmega]); (try with_reducible rfl)); simp only [Act.put, List.setIfInBounds_toArray, List.set_cons_zero, List.set_cons_succ])
  ((with_reducible apply E_run); rfl; rfl; (intro w M; go_simp; (try go_ints); (try simp only [↓IntWalk.iteOmega]); (try with_reducible rfl)); simp only [Act.put, List.setIfInBounds_toArray, List.set_cons_zero, List.set_cons_succ])
  ((with_reducible apply E_no); rfl; simp only [Act.put, List.setIfInBounds_toArray, List.set_cons_zero, List.set_cons_succ])
  ((with_reducible apply E_no); rfl; simp only [Act.put, List.setIfInBounds_toArray, List.set_cons_zero, List.set_cons_succ])
  ((with_reducible apply E_no); rfl; simp only [Act.put, List.setIfInBounds_toArray, List.set_cons_zero, List.set_cons_succ])
  ((with_reducible apply E_no); rfl; simp only [Act.put, List.setIfInBounds_toArray, List.set_cons_zero, List.set_cons_succ])
  ((with_reducible apply E_no); rfl; simp only [Act.put, List.setIfInBounds_toArray, List.set_cons_zero, List.set_cons_succ])
  ((with_reducible apply E_no); rfl; simp only [Act.put, List.setIfInBounds_toArray, List.set_cons_zero, List.set_cons_succ])
  ((with_reducible apply E_no); rfl; simp only [Act.put, List.setIfInBounds_toArray, List.set_cons_zero, List.set_cons_succ])
  ((with_reducible apply E_run); rfl; rfl; (intro w M; go_simp; (try go_ints); (try simp only [↓IntWalk.iteOmega]); (try with_reducible rfl)); simp only [Act.put, List.setIfInBounds_toArray, List.set_cons_zero, List.set_cons_succ])
  ((with_reducible apply E_run); rfl; rfl; (intro w M; go_simp; (try go_ints); (try simp only [↓IntWalk.iteOmega]); (try with_reducible rfl)); simp only [Act.put, List.setIfInBounds_toArray, List.set_cons_zero, List.set_cons_succ])
  refine E_nil ?_
  intro w9 K M
  replace HR := hid (HR.out.kept K)
  clear K
  refine S_done ?_
  go_wp2_with fail
  refine S_region (by kernel_rfl) ?_
  replace HR := hid (HR.out.kept (Kept.refl [] _).drew)
  refine E_stage 0 13 [0, 1, 2, 3, 4, 5, 6, 7, 8, 9, 10, 11, 12] (by kernel_rfl) M.drew ?_
  clear M
  simp only [List.filterMap_cons, List.filterMap_nil, List.getElem?_cons_zero, List.getElem?_cons_succ]
  ((with_reducible apply E_run); rfl; rfl; (intro w M; go_simp; (try go_ints); (try simp only [↓IntWalk.iteOmega]); (try with_reducible rfl)); simp only [Act.put, List.setIfInBounds_toArray, List.set_cons_zero, List.set_cons_succ])
  ((with_reducible apply E_run); rfl; rfl; (intro w M; go_simp; (try go_ints); (try simp only [↓IntWalk.iteOmega]); (try with_reducible rfl)); simp only [Act.put, List.setIfInBounds_toArray, List.set_cons_zero, List.set_cons_succ])
  ((with_reducible apply E_run); rfl; rfl; (intro w M; go_simp; (try go_ints); (try simp only [↓IntWalk.iteOmega]); (try with_reducible rfl)); simp only [Act.put, List.setIfInBounds_toArray, List.set_cons_zero, List.set_cons_succ])
  ((with_reducible apply E_no); rfl; simp only [Act.put, List.setIfInBounds_toArray, List.set_cons_zero, List.set_cons_succ])
  ((with_reducible apply E_no); rfl; simp only [Act.put, List.setIfInBounds_toArray, List.set_cons_zero, List.set_cons_succ])
  ((with_reducible apply E_no); rfl; simp only [Act.put, List.setIfInBounds_toArray, List.set_cons_zero, List.set_cons_succ])
  ((with_reducible apply E_no); rfl; simp only [Act.put, List.setIfInBounds_toArray, List.set_cons_zero, List.set_cons_succ])
  ((with_reducible apply E_no); rfl; simp only [Act.put, List.setIfInBounds_toArray, List.set_cons_zero, List.set_cons_succ])
  ((with_reducible apply E_no); rfl; simp only [Act.put, List.setIfInBounds_toArray, List.set_cons_zero, List.set_cons_succ])
  ((with_reducible apply E_no); rfl; simp only [Act.put, List.setIfInBounds_toArray, List.set_cons_zero, List.set_cons_succ])
  ((with_reducible apply E_no); rfl; simp only [Act.put, List.setIfInBounds_toArray, List.set_cons_zero, List.set_cons_succ])
  ((with_reducible apply E_run); rfl; rfl; (intro w M; go_simp; (try go_ints); (try simp only [↓IntWalk.iteOmega]); (try with_reducible rfl)); simp only [Act.put, List.setIfInBounds_toArray, List.set_cons_zero, List.set_cons_succ])
  ((with_reducible apply E_run); rfl; rfl; (intro w M; go_simp; (try go_ints); (try simp only [↓IntWalk.iteOmega]); (try with_reducible rfl)); simp only [Act.put, List.setIfInBounds_toArray, List.set_cons_zero, List.set_cons_succ])
  refine E_nil ?_
  intro w9 K M
  replace HR := hid (HR.out.kept K)
  clear K
  refine S_done ?_
  go_wp2_with fail
  refine S_region (by kernel_rfl) ?_
  replace HR := hid (HR.out.kept (Kept.refl [] _).drew)
  refine E_stage 0 19 [0, 1, 2, 3, 4, 5, 6, 7, 8, 9, 10, 11, 12, 13, 14, 15, 16, 17, 18] (by kernel_rfl) M.drew ?_
  clear M
  simp only [List.filterMap_cons, List.filterMap_nil, List.getElem?_cons_zero, List.getElem?_cons_succ]
  ((with_reducible apply E_run); rfl; rfl; (intro w M; go_simp; (try go_ints); (try simp only [↓IntWalk.iteOmega]); (try with_reducible rfl)); simp only [Act.put, List.setIfInBounds_toArray, List.set_cons_zero, List.set_cons_succ])
  ((with_reducible apply E_run); rfl; rfl; (intro w M; go_simp; (try go_ints); (try simp only [↓IntWalk.iteOmega]); (try with_reducible rfl)); simp only [Act.put, List.setIfInBounds_toArray, List.set_cons_zero, List.set_cons_succ])
  ((with_reducible apply E_run); rfl; rfl; (intro w M; go_simp; (try go_ints); (try simp only [↓IntWalk.iteOmega]); (try with_reducible rfl)); simp only [Act.put, List.setIfInBounds_toArray, List.set_cons_zero, List.set_cons_succ])
  ((with_reducible apply E_no); rfl; simp only [Act.put, List.setIfInBounds_toArray, List.set_cons_zero, List.set_cons_succ])
  ((with_reducible apply E_no); rfl; simp only [Act.put, List.setIfInBounds_toArray, List.set_cons_zero, List.set_cons_succ])
  ((with_reducible apply E_no); rfl; simp only [Act.put, List.setIfInBounds_toArray, List.set_cons_zero, List.set_cons_succ])
  ((with_reducible apply E_no); rfl; simp only [Act.put, List.setIfInBounds_toArray, List.set_cons_zero, List.set_cons_succ])
  ((with_reducible apply E_run); rfl; rfl; (intro w M; go_simp; (try go_ints); (try simp only [↓IntWalk.iteOmega]); (try with_reducible rfl)); simp only [Act.put, List.setIfInBounds_toArray, List.set_cons_zero, List.set_cons_succ])
  ((with_reducible apply E_run); rfl; rfl; (intro w M; go_simp; (try go_ints); (try simp only [↓IntWalk.iteOmega]); (try with_reducible rfl)); simp only [Act.put, List.setIfInBounds_toArray, List.set_cons_zero, List.set_cons_succ])
  ((with_reducible apply E_no); rfl; simp only [Act.put, List.setIfInBounds_toArray, List.set_cons_zero, List.set_cons_succ])
  ((with_reducible apply E_no); rfl; simp only [Act.put, List.setIfInBounds_toArray, List.set_cons_zero, List.set_cons_succ])
  ((with_reducible apply E_no); rfl; simp only [Act.put, List.setIfInBounds_toArray, List.set_cons_zero, List.set_cons_succ])
  ((with_reducible apply E_no); rfl; simp only [Act.put, List.setIfInBounds_toArray, List.set_cons_zero, List.set_cons_succ])
  ((with_reducible apply E_no); rfl; simp only [Act.put, List.setIfInBounds_toArray, List.set_cons_zero, List.set_cons_succ])
  ((with_reducible apply E_no); rfl; simp only [Act.put, List.setIfInBounds_toArray, List.set_cons_zero, List.set_cons_succ])
  ((with_reducible apply E_no); rfl; simp only [Act.put, List.setIfInBounds_toArray, List.set_cons_zero, List.set_cons_succ])
  ((with_reducible apply E_no); rfl; simp only [Act.put, List.setIfInBounds_toArray, List.set_cons_zero, List.set_cons_succ])
  ((with_reducible apply E_run); rfl; rfl; (intro w M; go_simp; (try go_ints); (try simp only [↓IntWalk.iteOmega]); (try with_reducible rfl)); simp only [Act.put, List.setIfInBounds_toArray, List.set_cons_zero, List.set_cons_succ])
  ((with_reducible apply E_run); rfl; rfl; (intro w M; go_simp; (try go_ints); (try simp only [↓IntWalk.iteOmega]); (try with_reducible rfl)); simp only [Act.put, List.setIfInBounds_toArray, List.set_cons_zero, List.set_cons_succ])
  refine E_nil ?_
  intro w9 K M
  replace HR := hid (HR.out.kept K)
  clear K
  refine S_done ?_
  go_wp2_with fail
  go_ret2
  exact ⟨_, rfl, HR.out, M.kept⟩

end Go.Proofs.YgcsalGreat

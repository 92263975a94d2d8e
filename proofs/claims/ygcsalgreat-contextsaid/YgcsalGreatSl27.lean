/-
  (*yp.Frame).reach at MSTORE, RETURN, REVERT, DELEGATECALL; (*yp.State).bareCost at SSTORE, SLOAD, DELEGATECALL; cost and refusal, parts given.
-/
import Derived.Test.YgcsalGreatSl25
import Derived.Test.YgcsalGreatSl6
set_option linter.unusedSimpArgs false
set_option linter.unusedVariables false
namespace Go.Proofs.YgcsalGreat
open Go.RowKit Go.Own
theorem arg_F (fb q i A m G : Nat) (fs0 : Array Value) (mc : Value) (ns : List Nat) (w : World) (hF : FrameQ w fb q fs0 m G ns mc) (hi : i < ns.length) (hA : ns[ns.length - 1 - i]? = some A) (hl : ns.length ≤ 40) :
    Calls Salg.prog 116 #[.pointer (some ⟨fb, q, none⟩), .int .i64 i] w fun e w' => ∃ r, e = .returned r ∧ NumV w' r A ∧ Kept [] w w' := by
  obtain ⟨fs, pv, gv, sv, xs, h1, h0, h2, h3, h4, h5, h6, h7, h8, h9, ha⟩ := hF
  have hxl := h9.1
  have e1 : ∃ u, xs[xs.length - 1 - i]? = some u := ⟨_, List.getElem?_eq_getElem (by omega)⟩
  obtain ⟨u, e1⟩ := e1
  refine (arg_q fb q fs sv u xs i w h1 h7 h8 (by omega) e1 (by omega)).mono ?_
  rintro e w' ⟨rfl, K⟩
  exact ⟨u, rfl, (h9.2 _ _ _ e1 (by rw [hxl]; exact hA)).kept K, K⟩

set_option maxHeartbeats 4000000 in
set_option maxRecDepth 100000 in
theorem reach_mstore (fb q A B m G : Nat) (fs0 : Array Value) (mc : Value) (ns : List Nat) (w : World) (hF : FrameQ w fb q fs0 m G (ns ++ [B, A]) mc) (hl : ns.length ≤ 30) (hA : A < 256 ^ 100) :
    Calls Salg.prog 114 #[.pointer (some ⟨fb, q, none⟩), .int .u8 82] w fun e w' => ∃ r, e = .returned r ∧ NumV w' r (A + 32) ∧ Kept [] w w' := by
  have M := Mem.start w []
  have HA0 := hid (fun w' (K : Kept [] w w') => arg_F fb q 0 A m G fs0 mc (ns ++ [B, A]) w' (hF.kept K) (by simp) (by simp) (by simp; omega))
  clear hF
  go_enter Salg.func114, Salg.ntmps114
  go_wp2_with fail
  refine (HA0.out _ M.kept).mono ?_
  rintro e w1 ⟨r0, rfl, xH0, K⟩
  have H0 := hid xH0
  replace M := M.call K
  clear K xH0
  go_wp2_with fail
  refine (num_int _ 32 rfl (by decide) _).mono ?_
  rintro e w2 ⟨r1, rfl, xH1, K⟩
  have H1 := hid xH1
  replace H0 := hid (H0.out.kept K)
  replace M := M.call K
  clear K xH1
  go_wp2_with fail
  refine (end_some r0 r1 A 32 _ H0.out H1.out (by decide) (by omega) (by decide)).mono ?_
  rintro e w3 ⟨r2, rfl, xH2, K⟩
  have H2 := hid xH2
  replace M := M.call K
  clear K xH2
  go_wp2_with fail
  go_ret
  exact ⟨_, rfl, H2.out, M.kept⟩

set_option maxHeartbeats 4000000 in
set_option maxRecDepth 100000 in
theorem reach_return (fb q A B m G : Nat) (fs0 : Array Value) (mc : Value) (ns : List Nat) (w : World) (hF : FrameQ w fb q fs0 m G (ns ++ [B, A]) mc) (hl : ns.length ≤ 30) (hA : A < 256 ^ 100) (hB : 0 < B ∧ B < 256 ^ 100) :
    Calls Salg.prog 114 #[.pointer (some ⟨fb, q, none⟩), .int .u8 243] w fun e w' => ∃ r, e = .returned r ∧ NumV w' r (A + B) ∧ Kept [] w w' := by
  have M := Mem.start w []
  have HA0 := hid (fun w' (K : Kept [] w w') => arg_F fb q 0 A m G fs0 mc (ns ++ [B, A]) w' (hF.kept K) (by simp) (by simp) (by simp; omega))
  have HA1 := hid (fun w' (K : Kept [] w w') => arg_F fb q 1 B m G fs0 mc (ns ++ [B, A]) w' (hF.kept K) (by simp) (by simp) (by simp; omega))
  clear hF
  go_enter Salg.func114, Salg.ntmps114
  go_wp2_with fail
  refine (HA0.out _ M.kept).mono ?_
  rintro e w1 ⟨r0, rfl, xH0, K⟩
  have H0 := hid xH0
  replace M := M.call K
  clear K xH0
  go_wp2_with fail
  refine (HA1.out _ M.kept).mono ?_
  rintro e w2 ⟨r1, rfl, xH1, K⟩
  have H1 := hid xH1
  replace H0 := hid (H0.out.kept K)
  replace M := M.call K
  clear K xH1
  go_wp2_with fail
  refine (end_some r0 r1 A B _ H0.out H1.out (by omega) (by omega) (by omega)).mono ?_
  rintro e w3 ⟨r2, rfl, xH2, K⟩
  have H2 := hid xH2
  replace M := M.call K
  clear K xH2
  go_wp2_with fail
  go_ret
  exact ⟨_, rfl, H2.out, M.kept⟩

set_option maxHeartbeats 4000000 in
set_option maxRecDepth 100000 in
theorem reach_revert (fb q A B m G : Nat) (fs0 : Array Value) (mc : Value) (ns : List Nat) (w : World) (hF : FrameQ w fb q fs0 m G (ns ++ [B, A]) mc) (hl : ns.length ≤ 30) (hA : A < 256 ^ 100) (hB : B = 0) :
    Calls Salg.prog 114 #[.pointer (some ⟨fb, q, none⟩), .int .u8 253] w fun e w' => ∃ r, e = .returned r ∧ NumV w' r 0 ∧ Kept [] w w' := by
  have M := Mem.start w []
  have HA0 := hid (fun w' (K : Kept [] w w') => arg_F fb q 0 A m G fs0 mc (ns ++ [B, A]) w' (hF.kept K) (by simp) (by simp) (by simp; omega))
  have HA1 := hid (fun w' (K : Kept [] w w') => arg_F fb q 1 B m G fs0 mc (ns ++ [B, A]) w' (hF.kept K) (by simp) (by simp) (by simp; omega))
  clear hF
  go_enter Salg.func114, Salg.ntmps114
  go_wp2_with fail
  refine (HA0.out _ M.kept).mono ?_
  rintro e w1 ⟨r0, rfl, xH0, K⟩
  have H0 := hid xH0
  replace M := M.call K
  clear K xH0
  go_wp2_with fail
  refine (HA1.out _ M.kept).mono ?_
  rintro e w2 ⟨r1, rfl, xH1, K⟩
  have H1 := hid xH1
  replace H0 := hid (H0.out.kept K)
  replace M := M.call K
  clear K xH1
  go_wp2_with fail
  refine (end_zero r0 r1 _ (hB ▸ H1.out)).mono ?_
  rintro e w3 ⟨r2, rfl, xH2, K⟩
  have H2 := hid xH2
  replace M := M.call K
  clear K xH2
  go_wp2_with fail
  go_ret
  exact ⟨_, rfl, H2.out, M.kept⟩

set_option maxHeartbeats 4000000 in
set_option maxRecDepth 100000 in
theorem reach_delegate (fb q A B m G : Nat) (fs0 : Array Value) (mc : Value) (ns : List Nat) (w : World) (hF : FrameQ w fb q fs0 m G (ns ++ [0, 0, 0, 0, B, A]) mc) (hl : ns.length ≤ 30) :
    Calls Salg.prog 114 #[.pointer (some ⟨fb, q, none⟩), .int .u8 244] w fun e w' => ∃ r, e = .returned r ∧ NumV w' r 0 ∧ Kept [] w w' := by
  have M := Mem.start w []
  have HA2 := hid (fun w' (K : Kept [] w w') => arg_F fb q 2 0 m G fs0 mc (ns ++ [0, 0, 0, 0, B, A]) w' (hF.kept K) (by simp) (by simp) (by simp; omega))
  have HA3 := hid (fun w' (K : Kept [] w w') => arg_F fb q 3 0 m G fs0 mc (ns ++ [0, 0, 0, 0, B, A]) w' (hF.kept K) (by simp) (by simp) (by simp; omega))
  have HA4 := hid (fun w' (K : Kept [] w w') => arg_F fb q 4 0 m G fs0 mc (ns ++ [0, 0, 0, 0, B, A]) w' (hF.kept K) (by simp) (by simp) (by simp; omega))
  have HA5 := hid (fun w' (K : Kept [] w w') => arg_F fb q 5 0 m G fs0 mc (ns ++ [0, 0, 0, 0, B, A]) w' (hF.kept K) (by simp) (by simp) (by simp; omega))
  clear hF
  go_enter Salg.func114, Salg.ntmps114
  go_wp2_with fail
  refine (HA2.out _ M.kept).mono ?_
  rintro e w1 ⟨r0, rfl, xH0, K⟩
  have H0 := hid xH0
  replace M := M.call K
  clear K xH0
  go_wp2_with fail
  refine (HA3.out _ M.kept).mono ?_
  rintro e w2 ⟨r1, rfl, xH1, K⟩
  have H1 := hid xH1
  replace H0 := hid (H0.out.kept K)
  replace M := M.call K
  clear K xH1
  go_wp2_with fail
  refine (end_zero r0 r1 _ H1.out).mono ?_
  rintro e w3 ⟨r2, rfl, xH2, K⟩
  have H2 := hid xH2
  replace M := M.call K
  clear K xH2
  go_wp2_with fail
  refine (HA4.out _ M.kept).mono ?_
  rintro e w4 ⟨r3, rfl, xH3, K⟩
  have H3 := hid xH3
  replace H2 := hid (H2.out.kept K)
  replace M := M.call K
  clear K xH3
  go_wp2_with fail
  refine (HA5.out _ M.kept).mono ?_
  rintro e w5 ⟨r4, rfl, xH4, K⟩
  have H4 := hid xH4
  replace H2 := hid (H2.out.kept K)
  replace H3 := hid (H3.out.kept K)
  replace M := M.call K
  clear K xH4
  go_wp2_with fail
  refine (end_zero r3 r4 _ H4.out).mono ?_
  rintro e w6 ⟨r5, rfl, xH5, K⟩
  have H5 := hid xH5
  replace H2 := hid (H2.out.kept K)
  replace M := M.call K
  clear K xH5
  go_wp2_with fail
  refine (maxNat_zero r2 r5 _ H2.out H5.out).mono ?_
  rintro e w7 ⟨r6, rfl, xH6, K⟩
  have H6 := hid xH6
  replace M := M.call K
  clear K xH6
  go_wp2_with fail
  go_ret
  exact ⟨_, rfl, H6.out, M.kept⟩

set_option maxHeartbeats 4000000 in
set_option maxRecDepth 100000 in
theorem bareCost_sstore (st f : Value) (C P : Nat) (w : World) (hs : Calls Salg.prog 243 #[st, f] w fun e w' => ∃ c p m, e = .returned (.tuple #[c, p, m]) ∧ NumV w' c C ∧ NumV w' p P ∧ NumV w' m 0 ∧ Kept [] w w') :
    Calls Salg.prog 217 #[st, f, .int .u8 85] w fun e w' => ∃ r, e = .returned r ∧ NumV w' r C ∧ Kept [] w w' := by
  have M := Mem.start w []
  have HS := hid hs
  clear hs
  go_enter Salg.func217, Salg.ntmps217
  go_wp2_with fail
  refine (HS.out).mono ?_
  rintro e w1 ⟨c, p, m, rfl, xH1, xH2, xH3, K⟩
  have H1 := hid xH1
  have H2 := hid xH2
  have H3 := hid xH3
  replace M := M.call K
  clear K xH1 xH2 xH3
  go_wp2_with fail
  go_ret
  exact ⟨_, rfl, H1.out, M.kept⟩

set_option maxHeartbeats 4000000 in
set_option maxRecDepth 100000 in
theorem bareCost_sload (c fb q K m G : Nat) (fs0 : Array Value) (cv fr mc : Value) (ns : List Nat) (la : List (List Nat)) (so : Option (Nat × Nat)) (R : Nat) (ds1 ds2 : List Nat) (w : World) (hC : ChainV w c fr la (some K) so R ds1 ds2) (hF : FrameQ w fb q fs0 m G (ns ++ [K]) mc) (hf : FrC fs0 q cv) (hl : ns.length ≤ 30) :
    Calls Salg.prog 217 #[.pointer (some ⟨c, 0, none⟩), .pointer (some ⟨fb, q, none⟩), .int .u8 84] w fun e w' => ∃ r, e = .returned r ∧ NumV w' r 100 ∧ Kept [] w w' := by
  have M := Mem.start w []
  have HA0 := hid (fun w' (K1 : Kept [] w w') => arg_F fb q 0 K m G fs0 mc (ns ++ [K]) w' (hF.kept K1) (by simp) (by simp) (by simp; omega))
  obtain ⟨vz, wz, mv, rv, lim, gv0, pr, tv, c1, c2, c3, c4, c5, c6⟩ := hC
  obtain ⟨fs, pv, gv, sv, xs, hr, h0, h2, h3, h4, h5, h6, h7, h8, h9, ha⟩ := hF
  obtain ⟨nv, bv, cu, sl, nv2, bv2, cu2, nv3, bv3, w1, w2, w3, w4, w5, w6, w7, w8, w9, wa, wb, wc, wd⟩ := c2
  have HSE : Hid (fs.extract (q + 12) (q + 12 + 20) = ((ad 1).map n8).toArray) := by
    have e := ext_same (a := q + 12) (n := 20) h0 fun k k1 k2 => h2 k (by omega) (by omega) (by omega) (by omega)
    exact e.trans hf.self
  have hsz : q + 12 + 20 ≤ fs.size := by have := hf.size; omega
  have HW := hid (fun w' u (K1 : Kept [] w w') (hu : NumV w' u K) => isWarmSlot_some c 119 _ mv u K w' (K1.row c1 (by simp)) (by kernel_rfl) (MarkV.kept w3 K1) hu)
  clear h0 h2 h3 h4 h5 h6 h7 h8 h9 ha w1 w2 w3 w4 w5 w6 w7 w8 w9 wa wb wc wd c3 c4 c5 c6 hf
  go_enter Salg.func217, Salg.ntmps217
  go_wp2_with fail
  refine S_region (by kernel_rfl) ?_
  refine E_stage 0 10 [0, 1, 2, 3, 4, 5, 6, 7, 8, 9] (by kernel_rfl) M.drew ?_
  clear M
  simp only [List.filterMap_cons, List.filterMap_nil, List.getElem?_cons_zero, List.getElem?_cons_succ]
  ((with_reducible apply E_run); rfl; rfl; (intro w M; go_simp; (try go_ints); (try simp only [↓IntWalk.iteOmega]); (try with_reducible rfl)); simp only [Act.put, List.setIfInBounds_toArray, List.set_cons_zero, List.set_cons_succ])
  ((with_reducible apply E_run); rfl; rfl; (intro w M; go_simp; (try go_ints); (try simp only [↓IntWalk.iteOmega]); (try with_reducible rfl)); simp only [Act.put, List.setIfInBounds_toArray, List.set_cons_zero, List.set_cons_succ])
  ((with_reducible apply E_run); rfl; rfl; (intro w M; go_simp; (try go_ints); (try simp only [↓IntWalk.iteOmega]); (try with_reducible rfl)); simp only [Act.put, List.setIfInBounds_toArray, List.set_cons_zero, List.set_cons_succ])
  ((with_reducible apply E_run); rfl; rfl; (intro w M; go_simp; (try go_ints); (try simp only [↓IntWalk.iteOmega]); (try with_reducible rfl)); simp only [Act.put, List.setIfInBounds_toArray, List.set_cons_zero, List.set_cons_succ])
  ((with_reducible apply E_run); rfl; rfl; (intro w M; go_simp; (try go_ints); (try simp only [↓IntWalk.iteOmega]); (try with_reducible rfl)); simp only [Act.put, List.setIfInBounds_toArray, List.set_cons_zero, List.set_cons_succ])
  ((with_reducible apply E_run); rfl; rfl; (intro w M; go_simp; (try go_ints); (try simp only [↓IntWalk.iteOmega]); (try with_reducible rfl)); simp only [Act.put, List.setIfInBounds_toArray, List.set_cons_zero, List.set_cons_succ])
  ((with_reducible apply E_run (v := .agg ((ad 1).map n8).toArray)); rfl; rfl; (intro w M; exact run_loadX (n := 20) (M.kept.row hr (by simp)) rfl Salg.underlying45 rfl size45 hsz HSE.out); simp only [Act.put, List.setIfInBounds_toArray, List.set_cons_zero, List.set_cons_succ])
  ((with_reducible apply E_run); rfl; rfl; (intro w M; go_simp; (try go_ints); (try simp only [↓IntWalk.iteOmega]); (try with_reducible rfl)); simp only [Act.put, List.setIfInBounds_toArray, List.set_cons_zero, List.set_cons_succ])
  refine E_call rfl Salg.func116 (by kernel_rfl) (by kernel_rfl) (args := [.pointer (some ⟨fb, q, none⟩), .int .i64 0]) rfl ?_
  intro w1 K M
  clear K
  refine (HA0.out _ M.kept).mono ?_
  rintro e w1 ⟨r0, rfl, xH0, K⟩
  have H0 := hid xH0
  clear xH0
  replace M := M.call K
  refine ⟨_, rfl, trivial, M, ?_⟩
  clear K
  simp only [Act.put, List.setIfInBounds_toArray, List.set_cons_zero, List.set_cons_succ]
  refine E_call rfl Salg.func168 (by kernel_rfl) (by kernel_rfl) (args := [.pointer (some ⟨c, 0, none⟩), A8 (ad 1), r0]) rfl ?_
  intro w1 K M
  replace H0 := hid (H0.out.kept K)
  clear K
  refine (HW.out _ r0 M.kept H0.out).mono ?_
  rintro e w2 ⟨rfl, K⟩
  replace H0 := hid (H0.out.kept K)
  replace M := M.call K
  refine ⟨_, rfl, trivial, M, ?_⟩
  clear K
  simp only [Act.put, List.setIfInBounds_toArray, List.set_cons_zero, List.set_cons_succ]
  refine E_nil ?_
  intro w3 K M
  clear K
  refine S_done ?_
  go_wp2_with fail
  refine (num_int _ 100 rfl (by decide) _).mono ?_
  rintro e w4 ⟨r1, rfl, xH1, K⟩
  have H1 := hid xH1
  replace M := M.call K
  clear K xH1
  go_wp2_with fail
  go_ret
  exact ⟨_, rfl, H1.out, M.kept⟩

set_option maxHeartbeats 4000000 in
set_option maxRecDepth 100000 in
theorem enterCost_delegate (c fb q A m G : Nat) (fs0 : Array Value) (fr mc : Value) (ns : List Nat) (la : List (List Nat)) (mo : Option Nat) (so : Option (Nat × Nat)) (R : Nat) (ds1 ds2 : List Nat) (w : World) (hC : ChainV w c fr la mo so R ds1 ds2) (hF : FrameQ w fb q fs0 m G (ns ++ [0, 0, 0, 0, 2, A]) mc) (hl : ns.length ≤ 30) (hla : decide (ad 2 ∈ la) = false) :
    Calls Salg.prog 245 #[.pointer (some ⟨c, 0, none⟩), .pointer (some ⟨fb, q, none⟩), .int .u8 244] w fun e w' => ∃ r, e = .returned r ∧ NumV w' r 2600 ∧ Kept [] w w' := by
  have M := Mem.start w []
  have HA1 := hid (fun w' (K1 : Kept [] w w') => arg_F fb q 1 2 m G fs0 mc _ w' (hF.kept K1) (by simp) (by simp) (by simp; omega))
  obtain ⟨vz, wz, mv, rv, lim, gv0, pr, tv, c1, c2, c3, c4, c5, c6⟩ := hC
  obtain ⟨nv, bv, cu, sl, nv2, bv2, cu2, nv3, bv3, w1, w2, w3, w4, w5, w6, w7, w8, w9, wa, wb, wc, wd⟩ := c2
  have HAC := hid (fun w' (K1 : Kept [] w w') => access_false c 119 _ wz la (ad 2) w' (K1.row c1 (by simp)) (by kernel_rfl) (w2.kept K1) (ad_ok 2 (by decide)) hla)
  clear hF w1 w2 w3 w4 w5 w6 w7 w8 w9 wa wb wc wd c3 c4 c5 c6 hla
  go_enter Salg.func245, Salg.ntmps245
  go_wp2_with fail
  refine (HA1.out _ M.kept).mono ?_
  rintro e w1 ⟨r0, rfl, xH0, K⟩
  have H0 := hid xH0
  replace M := M.call K
  clear K xH0
  go_wp2_with fail
  refine (addrOf_two r0 _ H0.out).mono ?_
  rintro e w2 ⟨rfl, K⟩
  replace M := M.call K
  clear K
  go_wp2_with (first
    | ((with_reducible apply L_allocA M); exact zero45; clear M; intro t7 w3 ht7 M; simp only [Act.put, List.setIfInBounds_toArray, List.set_cons_zero, List.set_cons_succ])
    | ((with_reducible apply W_storeK (b := t7) (vs := ((ad 2).map n8).toArray)); rfl; rfl; exact M.r0; exact size45; rfl; exact oneL rfl; intro w4 K hr3; replace M := Mem.callPut (L1 := []) M (Or.inr ht7) K hr3; clear K hr3; simp only [List.nil_append] at M))
  refine S_region (by kernel_rfl) ?_
  refine E_stage 0 6 [0, 1, 2, 3, 4, 5] (by kernel_rfl) M.drew ?_
  clear M
  simp only [List.filterMap_cons, List.filterMap_nil, List.getElem?_cons_zero, List.getElem?_cons_succ]
  ((with_reducible apply E_run); rfl; rfl; (intro w M; go_simp; (try go_ints); (try simp only [↓IntWalk.iteOmega]); (try with_reducible rfl)); simp only [Act.put, List.setIfInBounds_toArray, List.set_cons_zero, List.set_cons_succ])
  ((with_reducible apply E_run); rfl; rfl; (intro w M; go_simp; (try go_ints); (try simp only [↓IntWalk.iteOmega]); (try with_reducible rfl)); simp only [Act.put, List.setIfInBounds_toArray, List.set_cons_zero, List.set_cons_succ])
  ((with_reducible apply E_run); rfl; rfl; (intro w M; go_simp; (try go_ints); (try simp only [↓IntWalk.iteOmega]); (try with_reducible rfl)); simp only [Act.put, List.setIfInBounds_toArray, List.set_cons_zero, List.set_cons_succ])
  ((with_reducible apply E_run); rfl; rfl; (intro w M; exact run_loadAll (by (first | with_reducible exact M.r0 | with_reducible exact M.r1 | with_reducible exact M.r2 | with_reducible exact M.r3 | with_reducible exact M.r4 | with_reducible exact M.r5 | with_reducible exact M.r6 | assumption | exact M.kept.row (by assumption) (by simp))) rfl Salg.underlying45 rfl (by first | with_reducible exact size45 | (rw [size45]; simp [ad]))); simp only [Act.put, List.setIfInBounds_toArray, List.set_cons_zero, List.set_cons_succ])
  refine E_call rfl Salg.func242 (by kernel_rfl) (by kernel_rfl) (args := [.pointer (some ⟨c, 0, none⟩), A8 (ad 2)]) rfl ?_
  intro w1 K M
  clear K
  refine (HAC.out _ M.kept).mono ?_
  rintro e w5 ⟨r1, rfl, xH1, K⟩
  have H1 := hid xH1
  clear xH1
  replace M := M.call K
  refine ⟨_, rfl, trivial, M, ?_⟩
  clear K
  simp only [Act.put, List.setIfInBounds_toArray, List.set_cons_zero, List.set_cons_succ]
  ((with_reducible apply E_run); rfl; rfl; (intro w M; go_simp; (try go_ints); (try simp only [↓IntWalk.iteOmega]); (try with_reducible rfl)); simp only [Act.put, List.setIfInBounds_toArray, List.set_cons_zero, List.set_cons_succ])
  refine E_nil ?_
  intro w6 K M
  replace H1 := hid (H1.out.kept K)
  clear K
  refine S_done ?_
  go_wp2_with fail
  go_ret
  exact ⟨_, rfl, H1.out, M.kept⟩

set_option maxHeartbeats 4000000 in
set_option maxRecDepth 100000 in
theorem bareCost_enter (st f : Value) (C : Nat) (w : World) (hs : Calls Salg.prog 245 #[st, f, .int .u8 244] w fun e w' => ∃ r, e = .returned r ∧ NumV w' r C ∧ Kept [] w w') :
    Calls Salg.prog 217 #[st, f, .int .u8 244] w fun e w' => ∃ r, e = .returned r ∧ NumV w' r C ∧ Kept [] w w' := by
  have M := Mem.start w []
  have HS := hid hs
  clear hs
  go_enter Salg.func217, Salg.ntmps217
  go_wp2_with fail
  refine (family_delegatecall _).mono ?_
  rintro e w1 ⟨rfl, hw⟩
  replace hw := hw.symm
  subst hw
  go_wp2_with fail
  refine (HS.out).mono ?_
  rintro e w1 ⟨c, rfl, xH1, K⟩
  have H1 := hid xH1
  replace M := M.call K
  clear K xH1
  go_wp2_with fail
  go_ret
  exact ⟨_, rfl, H1.out, M.kept⟩

set_option maxHeartbeats 4000000 in
set_option maxRecDepth 100000 in
theorem cost_00 (st : Value) (fb q o C : Nat) (fs : Array Value) (mp : Option Addr) (mc : Nat) (w : World) (hr : w.heap[fb]? = some (.cells fs 142 (0, 0))) (h9 : fs[q + 9]? = some (.slice mp 0 mc)) (hC : C < 256 ^ 100)
    (hB : ∀ w', Kept [] w w' → Calls Salg.prog 217 #[st, .pointer (some ⟨fb, q, none⟩), .int .u8 o] w' fun e w'' => ∃ r, e = .returned r ∧ NumV w'' r C ∧ Kept [] w' w'')
    (hR : ∀ w', Kept [] w w' → Calls Salg.prog 114 #[.pointer (some ⟨fb, q, none⟩), .int .u8 o] w' fun e w'' => ∃ r, e = .returned r ∧ NumV w'' r 0 ∧ Kept [] w' w'') :
    Calls Salg.prog 183 #[st, .pointer (some ⟨fb, q, none⟩), .int .u8 o] w fun e w' => ∃ r, e = .returned r ∧ NumV w' r (C + 0) ∧ Kept [] w w' := by
  have M := Mem.start w []
  have HB := hid hB
  have HRR := hid hR
  clear hB hR
  go_enter Salg.func183, Salg.ntmps183
  go_wp2_with fail
  refine (HB.out _ M.kept).mono ?_
  rintro e w1 ⟨r, rfl, xHR, K⟩
  have HR := hid xHR
  replace M := M.call K
  clear K xHR
  go_wp2_with ((with_reducible apply W_loadCell); rfl; exact M.kept.row hr (by simp); exact h9; exact Salg.underlying40; rfl; simp only [Act.put, List.setIfInBounds_toArray, List.set_cons_zero, List.set_cons_succ])
  refine (num_int _ 0 rfl (by decide) _).mono ?_
  rintro e w2 ⟨r2, rfl, xHR2, K⟩
  have HR2 := hid xHR2
  replace HR := hid (HR.out.kept K)
  replace M := M.call K
  clear K xHR2
  go_wp2_with fail
  refine (HRR.out _ M.kept).mono ?_
  rintro e w3 ⟨r3, rfl, xHR3, K⟩
  have HR3 := hid xHR3
  replace HR := hid (HR.out.kept K)
  replace HR2 := hid (HR2.out.kept K)
  replace M := M.call K
  clear K xHR3
  go_wp2_with fail
  refine (words_any r3 0 _ HR3.out (by decide)).mono ?_
  rintro e w4 ⟨r4, rfl, xHR4, K⟩
  have HR4 := hid xHR4
  replace HR := hid (HR.out.kept K)
  replace HR2 := hid (HR2.out.kept K)
  replace M := M.call K
  clear K xHR4
  go_wp2_with fail
  refine (cmp_lit r4 r2 ((0 + 31) / 32) 0 (0) (by decide) _ HR4.out HR2.out).mono ?_
  rintro e w5 ⟨rfl, K⟩
  replace HR := hid (HR.out.kept K)
  replace HR2 := hid (HR2.out.kept K)
  replace HR4 := hid (HR4.out.kept K)
  replace M := M.call K
  clear K
  go_wp2_with fail
  go_ret
  exact ⟨_, rfl, HR.out, M.kept⟩

set_option maxHeartbeats 4000000 in
set_option maxRecDepth 100000 in
theorem cost_10 (st : Value) (fb q o C : Nat) (fs : Array Value) (mp : Option Addr) (mc : Nat) (w : World) (hr : w.heap[fb]? = some (.cells fs 142 (0, 0))) (h9 : fs[q + 9]? = some (.slice mp 32 mc)) (hC : C < 256 ^ 100)
    (hB : ∀ w', Kept [] w w' → Calls Salg.prog 217 #[st, .pointer (some ⟨fb, q, none⟩), .int .u8 o] w' fun e w'' => ∃ r, e = .returned r ∧ NumV w'' r C ∧ Kept [] w' w'')
    (hR : ∀ w', Kept [] w w' → Calls Salg.prog 114 #[.pointer (some ⟨fb, q, none⟩), .int .u8 o] w' fun e w'' => ∃ r, e = .returned r ∧ NumV w'' r 0 ∧ Kept [] w' w'') :
    Calls Salg.prog 183 #[st, .pointer (some ⟨fb, q, none⟩), .int .u8 o] w fun e w' => ∃ r, e = .returned r ∧ NumV w' r (C + 0) ∧ Kept [] w w' := by
  have M := Mem.start w []
  have HB := hid hB
  have HRR := hid hR
  clear hB hR
  go_enter Salg.func183, Salg.ntmps183
  go_wp2_with fail
  refine (HB.out _ M.kept).mono ?_
  rintro e w1 ⟨r, rfl, xHR, K⟩
  have HR := hid xHR
  replace M := M.call K
  clear K xHR
  go_wp2_with ((with_reducible apply W_loadCell); rfl; exact M.kept.row hr (by simp); exact h9; exact Salg.underlying40; rfl; simp only [Act.put, List.setIfInBounds_toArray, List.set_cons_zero, List.set_cons_succ])
  refine (num_int _ 1 rfl (by decide) _).mono ?_
  rintro e w2 ⟨r2, rfl, xHR2, K⟩
  have HR2 := hid xHR2
  replace HR := hid (HR.out.kept K)
  replace M := M.call K
  clear K xHR2
  go_wp2_with fail
  refine (HRR.out _ M.kept).mono ?_
  rintro e w3 ⟨r3, rfl, xHR3, K⟩
  have HR3 := hid xHR3
  replace HR := hid (HR.out.kept K)
  replace HR2 := hid (HR2.out.kept K)
  replace M := M.call K
  clear K xHR3
  go_wp2_with fail
  refine (words_any r3 0 _ HR3.out (by decide)).mono ?_
  rintro e w4 ⟨r4, rfl, xHR4, K⟩
  have HR4 := hid xHR4
  replace HR := hid (HR.out.kept K)
  replace HR2 := hid (HR2.out.kept K)
  replace M := M.call K
  clear K xHR4
  go_wp2_with fail
  refine (cmp_lit r4 r2 ((0 + 31) / 32) 1 (-1) (by decide) _ HR4.out HR2.out).mono ?_
  rintro e w5 ⟨rfl, K⟩
  replace HR := hid (HR.out.kept K)
  replace HR2 := hid (HR2.out.kept K)
  replace HR4 := hid (HR4.out.kept K)
  replace M := M.call K
  clear K
  go_wp2_with fail
  go_ret
  exact ⟨_, rfl, HR.out, M.kept⟩

set_option maxHeartbeats 4000000 in
set_option maxRecDepth 100000 in
theorem cost_11 (st : Value) (fb q o C : Nat) (fs : Array Value) (mp : Option Addr) (mc : Nat) (w : World) (hr : w.heap[fb]? = some (.cells fs 142 (0, 0))) (h9 : fs[q + 9]? = some (.slice mp 32 mc)) (hC : C < 256 ^ 100)
    (hB : ∀ w', Kept [] w w' → Calls Salg.prog 217 #[st, .pointer (some ⟨fb, q, none⟩), .int .u8 o] w' fun e w'' => ∃ r, e = .returned r ∧ NumV w'' r C ∧ Kept [] w' w'')
    (hR : ∀ w', Kept [] w w' → Calls Salg.prog 114 #[.pointer (some ⟨fb, q, none⟩), .int .u8 o] w' fun e w'' => ∃ r, e = .returned r ∧ NumV w'' r 32 ∧ Kept [] w' w'') :
    Calls Salg.prog 183 #[st, .pointer (some ⟨fb, q, none⟩), .int .u8 o] w fun e w' => ∃ r, e = .returned r ∧ NumV w' r (C + 0) ∧ Kept [] w w' := by
  have M := Mem.start w []
  have HB := hid hB
  have HRR := hid hR
  clear hB hR
  go_enter Salg.func183, Salg.ntmps183
  go_wp2_with fail
  refine (HB.out _ M.kept).mono ?_
  rintro e w1 ⟨r, rfl, xHR, K⟩
  have HR := hid xHR
  replace M := M.call K
  clear K xHR
  go_wp2_with ((with_reducible apply W_loadCell); rfl; exact M.kept.row hr (by simp); exact h9; exact Salg.underlying40; rfl; simp only [Act.put, List.setIfInBounds_toArray, List.set_cons_zero, List.set_cons_succ])
  refine (num_int _ 1 rfl (by decide) _).mono ?_
  rintro e w2 ⟨r2, rfl, xHR2, K⟩
  have HR2 := hid xHR2
  replace HR := hid (HR.out.kept K)
  replace M := M.call K
  clear K xHR2
  go_wp2_with fail
  refine (HRR.out _ M.kept).mono ?_
  rintro e w3 ⟨r3, rfl, xHR3, K⟩
  have HR3 := hid xHR3
  replace HR := hid (HR.out.kept K)
  replace HR2 := hid (HR2.out.kept K)
  replace M := M.call K
  clear K xHR3
  go_wp2_with fail
  refine (words_any r3 32 _ HR3.out (by decide)).mono ?_
  rintro e w4 ⟨r4, rfl, xHR4, K⟩
  have HR4 := hid xHR4
  replace HR := hid (HR.out.kept K)
  replace HR2 := hid (HR2.out.kept K)
  replace M := M.call K
  clear K xHR4
  go_wp2_with fail
  refine (cmp_lit r4 r2 ((32 + 31) / 32) 1 (0) (by decide) _ HR4.out HR2.out).mono ?_
  rintro e w5 ⟨rfl, K⟩
  replace HR := hid (HR.out.kept K)
  replace HR2 := hid (HR2.out.kept K)
  replace HR4 := hid (HR4.out.kept K)
  replace M := M.call K
  clear K
  go_wp2_with fail
  go_ret
  exact ⟨_, rfl, HR.out, M.kept⟩

set_option maxHeartbeats 4000000 in
set_option maxRecDepth 100000 in
theorem cost_01 (st : Value) (fb q o C : Nat) (fs : Array Value) (mp : Option Addr) (mc : Nat) (w : World) (hr : w.heap[fb]? = some (.cells fs 142 (0, 0))) (h9 : fs[q + 9]? = some (.slice mp 0 mc)) (hC : C < 256 ^ 100)
    (hB : ∀ w', Kept [] w w' → Calls Salg.prog 217 #[st, .pointer (some ⟨fb, q, none⟩), .int .u8 o] w' fun e w'' => ∃ r, e = .returned r ∧ NumV w'' r C ∧ Kept [] w' w'')
    (hR : ∀ w', Kept [] w w' → Calls Salg.prog 114 #[.pointer (some ⟨fb, q, none⟩), .int .u8 o] w' fun e w'' => ∃ r, e = .returned r ∧ NumV w'' r 32 ∧ Kept [] w' w'') :
    Calls Salg.prog 183 #[st, .pointer (some ⟨fb, q, none⟩), .int .u8 o] w fun e w' => ∃ r, e = .returned r ∧ NumV w' r (C + 3) ∧ Kept [] w w' := by
  have M := Mem.start w []
  have HB := hid hB
  have HRR := hid hR
  clear hB hR
  go_enter Salg.func183, Salg.ntmps183
  go_wp2_with fail
  refine (HB.out _ M.kept).mono ?_
  rintro e w1 ⟨r, rfl, xHR, K⟩
  have HR := hid xHR
  replace M := M.call K
  clear K xHR
  go_wp2_with ((with_reducible apply W_loadCell); rfl; exact M.kept.row hr (by simp); exact h9; exact Salg.underlying40; rfl; simp only [Act.put, List.setIfInBounds_toArray, List.set_cons_zero, List.set_cons_succ])
  refine (num_int _ 0 rfl (by decide) _).mono ?_
  rintro e w2 ⟨r2, rfl, xHR2, K⟩
  have HR2 := hid xHR2
  replace HR := hid (HR.out.kept K)
  replace M := M.call K
  clear K xHR2
  go_wp2_with fail
  refine (HRR.out _ M.kept).mono ?_
  rintro e w3 ⟨r3, rfl, xHR3, K⟩
  have HR3 := hid xHR3
  replace HR := hid (HR.out.kept K)
  replace HR2 := hid (HR2.out.kept K)
  replace M := M.call K
  clear K xHR3
  go_wp2_with fail
  refine (words_any r3 32 _ HR3.out (by decide)).mono ?_
  rintro e w4 ⟨r4, rfl, xHR4, K⟩
  have HR4 := hid xHR4
  replace HR := hid (HR.out.kept K)
  replace HR2 := hid (HR2.out.kept K)
  replace M := M.call K
  clear K xHR4
  go_wp2_with fail
  refine (cmp_lit r4 r2 ((32 + 31) / 32) 0 (1) (by decide) _ HR4.out HR2.out).mono ?_
  rintro e w5 ⟨rfl, K⟩
  replace HR := hid (HR.out.kept K)
  replace HR2 := hid (HR2.out.kept K)
  replace HR4 := hid (HR4.out.kept K)
  replace M := M.call K
  clear K
  go_wp2_with fail
  refine (memCost_any r4 1 _ HR4.out (by decide)).mono ?_
  rintro e w6 ⟨r5, rfl, xHR5, K⟩
  have HR5 := hid xHR5
  replace HR := hid (HR.out.kept K)
  replace HR2 := hid (HR2.out.kept K)
  replace M := M.call K
  clear K xHR5
  go_wp2_with fail
  refine (memCost_any r2 0 _ HR2.out (by decide)).mono ?_
  rintro e w7 ⟨r6, rfl, xHR6, K⟩
  have HR6 := hid xHR6
  replace HR := hid (HR.out.kept K)
  replace HR5 := hid (HR5.out.kept K)
  replace M := M.call K
  clear K xHR6
  go_wp2_with fail
  refine (less_any r5 r6 _ _ _ HR5.out HR6.out (by decide) (by decide)).mono ?_
  rintro e w8 ⟨r7, rfl, xHR7, K⟩
  have HR7 := hid xHR7
  replace HR := hid (HR.out.kept K)
  replace M := M.call K
  clear K xHR7
  go_wp2_with fail
  refine (add_num r r7 C _ _ HR.out HR7.out (by omega) (by decide)).mono ?_
  rintro e w9 ⟨r8, rfl, xHR, K⟩
  replace HR := hid xHR
  replace M := M.call K
  clear K xHR
  go_wp2_with fail
  go_ret
  exact ⟨_, rfl, HR.out, M.kept⟩

set_option maxHeartbeats 4000000 in
set_option maxRecDepth 100000 in
theorem refusal_sstore (st : Value) (fb q m G C : Nat) (fs0 : Array Value) (cv mc : Value) (ns : List Nat) (w : World) (hF : FrameQ w fb q fs0 m G ns mc) (hf : FrC fs0 q cv) (hn : 2 ≤ ns.length) (hn2 : ns.length ≤ 40) (hCG : C ≤ G) (hG2 : 2300 < G)
    (hC : ∀ w', Kept [] w w' → Calls Salg.prog 183 #[st, .pointer (some ⟨fb, q, none⟩), .int .u8 85] w' fun e w'' => ∃ r, e = .returned r ∧ NumV w'' r C ∧ Kept [] w' w'') :
    Calls Salg.prog 111 #[st, .pointer (some ⟨fb, q, none⟩), .int .u8 85] w fun e w' => ∃ r, e = .returned (.tuple #[.int .u8 0, r]) ∧ NumV w' r C ∧ Kept [] w w' := by
  have M := Mem.start w []
  obtain ⟨fs, pv, gv, sv, xs, hr, hsz, hfs, h3, hpv, h4, hgv, h8, hsv, hxs, hmv⟩ := hF
  have hxl := hxs.1
  obtain ⟨p, n, cp, rfl⟩ := rowV_slice hsv
  obtain rfl : n = xs.length := by
    rcases hsv with ⟨e, e2⟩ | ⟨g, cap, cur, e, _⟩
    · cases e; subst e2; rfl
    · cases e; rfl
  have h2 := (hfs (q + 2) (by omega) (by omega) (by omega) (by omega)).trans hf.f2
  have HG := hid hgv
  have HC := hid hC
  have d1 : decide ((xs.length : Int) < (2 : Int)) = false := by simp <;> omega
  have d2 : decide ((64 : Int) < (xs.length : Int) - (2 : Int) + (0 : Int)) = false := by simp; omega
  have d3 : decide ((64 : Int) < (xs.length : Int) - (2 : Int)) = false := by simp; omega
  have d4 : decide ((64 : Int) < (xs.length : Int)) = false := by simp; omega
  have d5 : decide ((xs.length : Int) < 0) = false := by simp
  clear hgv hC hfs hsv hxs hpv hf hsz hmv h3
  go_enter Salg.func111, Salg.ntmps111
  go_wp2_with fail
  refine (arity_sstore _).mono ?_
  rintro e w1 ⟨rfl, hw⟩
  replace hw := hw.symm
  subst hw
  go_wp2_with (first
    | ((with_reducible apply W_loadCell); rfl; exact M.kept.row hr (by simp); exact h8; exact Salg.underlying140; rfl; simp only [Act.put, List.setIfInBounds_toArray, List.set_cons_zero, List.set_cons_succ])
    | ((with_reducible apply W_loadCell); rfl; exact M.kept.row hr (by simp); exact h2; exact Salg.underlying4; rfl; simp only [Act.put, List.setIfInBounds_toArray, List.set_cons_zero, List.set_cons_succ]))
  refine S_region (by kernel_rfl) ?_
  refine E_stage 0 19 [0, 1, 2, 3, 5, 8, 9, 10, 11, 12, 13, 4, 6, 7, 14, 15, 16, 17, 18] (by kernel_rfl) M.drew ?_
  clear M
  simp only [List.filterMap_cons, List.filterMap_nil, List.getElem?_cons_zero, List.getElem?_cons_succ]
  ((with_reducible apply E_run); rfl; rfl; (intro w M; go_simp; (try go_ints); (try simp only [↓IntWalk.iteOmega]); (try with_reducible rfl)); simp only [Act.put, List.setIfInBounds_toArray, List.set_cons_zero, List.set_cons_succ])
  ((with_reducible apply E_run); rfl; rfl; (intro w M; go_simp; (try go_ints); (try simp only [↓IntWalk.iteOmega]); (try with_reducible rfl)); simp only [Act.put, List.setIfInBounds_toArray, List.set_cons_zero, List.set_cons_succ])
  ((with_reducible apply E_run); rfl; rfl; (intro w M; go_simp; (try go_ints); (try simp only [↓IntWalk.iteOmega]); (try with_reducible rfl)); simp only [Act.put, List.setIfInBounds_toArray, List.set_cons_zero, List.set_cons_succ])
  ((with_reducible apply E_no); rfl; simp only [Act.put, List.setIfInBounds_toArray, List.set_cons_zero, List.set_cons_succ])
  ((with_reducible apply E_no); rfl; simp only [Act.put, List.setIfInBounds_toArray, List.set_cons_zero, List.set_cons_succ])
  ((with_reducible apply E_no); rfl; simp only [Act.put, List.setIfInBounds_toArray, List.set_cons_zero, List.set_cons_succ])
  ((with_reducible apply E_no); rfl; simp only [Act.put, List.setIfInBounds_toArray, List.set_cons_zero, List.set_cons_succ])
  ((with_reducible apply E_no); rfl; simp only [Act.put, List.setIfInBounds_toArray, List.set_cons_zero, List.set_cons_succ])
  ((with_reducible apply E_no); rfl; simp only [Act.put, List.setIfInBounds_toArray, List.set_cons_zero, List.set_cons_succ])
  ((with_reducible apply E_no); rfl; simp only [Act.put, List.setIfInBounds_toArray, List.set_cons_zero, List.set_cons_succ])
  ((with_reducible apply E_no); rfl; simp only [Act.put, List.setIfInBounds_toArray, List.set_cons_zero, List.set_cons_succ])
  ((with_reducible apply E_no); rfl; simp only [Act.put, List.setIfInBounds_toArray, List.set_cons_zero, List.set_cons_succ])
  ((with_reducible apply E_no); rfl; simp only [Act.put, List.setIfInBounds_toArray, List.set_cons_zero, List.set_cons_succ])
  ((with_reducible apply E_no); rfl; simp only [Act.put, List.setIfInBounds_toArray, List.set_cons_zero, List.set_cons_succ])
  ((with_reducible apply E_no); rfl; simp only [Act.put, List.setIfInBounds_toArray, List.set_cons_zero, List.set_cons_succ])
  ((with_reducible apply E_no); rfl; simp only [Act.put, List.setIfInBounds_toArray, List.set_cons_zero, List.set_cons_succ])
  ((with_reducible apply E_no); rfl; simp only [Act.put, List.setIfInBounds_toArray, List.set_cons_zero, List.set_cons_succ])
  ((with_reducible apply E_run); rfl; rfl; (intro w M; go_simp; (try go_ints); (try simp only [↓IntWalk.iteOmega]); (try with_reducible rfl)); simp only [Act.put, List.setIfInBounds_toArray, List.set_cons_zero, List.set_cons_succ])
  ((with_reducible apply E_run); rfl; rfl; (intro w M; go_simp; (try go_ints); (try simp only [↓IntWalk.iteOmega]); (try with_reducible rfl)); simp only [Act.put, List.setIfInBounds_toArray, List.set_cons_zero, List.set_cons_succ])
  refine E_nil ?_
  intro w9 K M
  clear K
  refine S_done ?_
  go_wp2_with fail
  refine (HC.out _ M.kept).mono ?_
  rintro e w2 ⟨r, rfl, xHR, K⟩
  have HR := hid xHR
  replace M := M.call K
  clear K xHR
  go_wp2_with ((with_reducible apply W_loadCell); rfl; exact M.kept.row hr (by simp); exact h4; exact Salg.underlying89; rfl; simp only [Act.put, List.setIfInBounds_toArray, List.set_cons_zero, List.set_cons_succ])
  refine (cmp_num r gv C G _ HR.out (HG.out.kept M.kept)).mono ?_
  rintro e w3 ⟨rfl, K⟩
  replace HR := hid (HR.out.kept K)
  replace M := M.call K
  clear K
  have hz : decide ((0 : Int) < cmpI C G) = false := by
    unfold cmpI
    split
    · rfl
    · rw [if_neg (by omega)]; rfl
  go_wp2_with fail
  refine S_region (by kernel_rfl) ?_
  replace HR := hid (HR.out.kept (Kept.refl [] _).drew)
  refine E_stage 0 12 [0, 1, 2, 3, 4, 5, 6, 7, 8, 9, 10, 11] (by kernel_rfl) M.drew ?_
  clear M
  simp only [List.filterMap_cons, List.filterMap_nil, List.getElem?_cons_zero, List.getElem?_cons_succ]
  ((with_reducible apply E_run); rfl; rfl; (intro w M; go_simp; (try go_ints); (try simp only [↓IntWalk.iteOmega]); (try with_reducible rfl)); simp only [Act.put, List.setIfInBounds_toArray, List.set_cons_zero, List.set_cons_succ])
  ((with_reducible apply E_run); rfl; rfl; (intro w M; go_simp; (try go_ints); (try simp only [↓IntWalk.iteOmega]); (try with_reducible rfl)); simp only [Act.put, List.setIfInBounds_toArray, List.set_cons_zero, List.set_cons_succ])
  ((with_reducible apply E_run); rfl; rfl; (intro w M; go_simp; (try go_ints); (try simp only [↓IntWalk.iteOmega]); (try with_reducible rfl)); simp only [Act.put, List.setIfInBounds_toArray, List.set_cons_zero, List.set_cons_succ])
  ((with_reducible apply E_run); rfl; rfl; (intro w M; go_simp; (try go_ints); (try simp only [↓IntWalk.iteOmega]); (try with_reducible rfl)); simp only [Act.put, List.setIfInBounds_toArray, List.set_cons_zero, List.set_cons_succ])
  ((with_reducible apply E_run); rfl; rfl; (intro w M; go_simp; (try go_ints); (try simp only [↓IntWalk.iteOmega]); (try with_reducible rfl)); simp only [Act.put, List.setIfInBounds_toArray, List.set_cons_zero, List.set_cons_succ])
  ((with_reducible apply E_run); rfl; rfl; (intro w M; go_simp; (try go_ints); (try simp only [↓IntWalk.iteOmega]); (try with_reducible rfl)); simp only [Act.put, List.setIfInBounds_toArray, List.set_cons_zero, List.set_cons_succ])
  ((with_reducible apply E_run); rfl; rfl; (intro w M; exact run_loadCell (M.kept.row hr (by simp)) rfl h4 Salg.underlying89 rfl); simp only [Act.put, List.setIfInBounds_toArray, List.set_cons_zero, List.set_cons_succ])
  refine E_call rfl Salg.func87 (by kernel_rfl) (by kernel_rfl) (args := [.int .u64 2300]) rfl ?_
  intro w1 K M
  replace HR := hid (HR.out.kept K)
  clear K
  refine (num_int _ 2300 rfl (by decide) _).mono ?_
  rintro e w4 ⟨r9, rfl, xHR9, K⟩
  have HR9 := hid xHR9
  clear xHR9
  replace HR := hid (HR.out.kept K)
  replace M := M.call K
  refine ⟨_, rfl, trivial, M, ?_⟩
  clear K
  simp only [Act.put, List.setIfInBounds_toArray, List.set_cons_zero, List.set_cons_succ]
  refine E_call rfl Salg.func72 (by kernel_rfl) (by kernel_rfl) (args := [gv, r9]) rfl ?_
  intro w1 K M
  replace HR := hid (HR.out.kept K)
  replace HR9 := hid (HR9.out.kept K)
  clear K
  refine (cmp_lit gv r9 G 2300 1 (by unfold cmpI; rw [if_neg (by omega), if_pos (by omega)]) _ (HG.out.kept M.kept) HR9.out).mono ?_
  rintro e w5 ⟨rfl, K⟩
  replace HR := hid (HR.out.kept K)
  replace HR9 := hid (HR9.out.kept K)
  replace M := M.call K
  refine ⟨_, rfl, trivial, M, ?_⟩
  clear K
  simp only [Act.put, List.setIfInBounds_toArray, List.set_cons_zero, List.set_cons_succ]
  ((with_reducible apply E_run); rfl; rfl; (intro w M; go_simp; (try go_ints); (try simp only [↓IntWalk.iteOmega]); (try with_reducible rfl)); simp only [Act.put, List.setIfInBounds_toArray, List.set_cons_zero, List.set_cons_succ])
  ((with_reducible apply E_run); rfl; rfl; (intro w M; go_simp; (try go_ints); (try simp only [↓IntWalk.iteOmega]); (try with_reducible rfl)); simp only [Act.put, List.setIfInBounds_toArray, List.set_cons_zero, List.set_cons_succ])
  ((with_reducible apply E_run); rfl; rfl; (intro w M; go_simp; (try go_ints); (try simp only [↓IntWalk.iteOmega]); (try with_reducible rfl)); simp only [Act.put, List.setIfInBounds_toArray, List.set_cons_zero, List.set_cons_succ])
  refine E_nil ?_
  intro w6 K M
  replace HR := hid (HR.out.kept K)
  clear K
  refine S_done ?_
  go_wp2_with fail
  refine S_region (by kernel_rfl) ?_
  replace HR := hid (HR.out.kept (Kept.refl [] _).drew)
  refine E_stage 0 13 [0, 1, 2, 3, 4, 5, 6, 7, 8, 9, 10, 11, 12] (by kernel_rfl) M.drew ?_
  clear M
  simp only [List.filterMap_cons, List.filterMap_nil, List.getElem?_cons_zero, List.getElem?_cons_succ]
  ((with_reducible apply E_run); rfl; rfl; (intro w M; go_simp; (try go_ints); (try simp only [↓IntWalk.iteOmega]); (try with_reducible rfl)); simp only [Act.put, List.setIfInBounds_toArray, List.set_cons_zero, List.set_cons_succ])
  ((with_reducible apply E_run); rfl; rfl; (intro w M; go_simp; (try go_ints); (try simp only [↓IntWalk.iteOmega]); (try with_reducible rfl)); simp only [Act.put, List.setIfInBounds_toArray, List.set_cons_zero, List.set_cons_succ])
  ((with_reducible apply E_run); rfl; rfl; (intro w M; go_simp; (try go_ints); (try simp only [↓IntWalk.iteOmega]); (try with_reducible rfl)); simp only [Act.put, List.setIfInBounds_toArray, List.set_cons_zero, List.set_cons_succ])
  ((with_reducible apply E_no); rfl; simp only [Act.put, List.setIfInBounds_toArray, List.set_cons_zero, List.set_cons_succ])
  ((with_reducible apply E_no); rfl; simp only [Act.put, List.setIfInBounds_toArray, List.set_cons_zero, List.set_cons_succ])
  ((with_reducible apply E_no); rfl; simp only [Act.put, List.setIfInBounds_toArray, List.set_cons_zero, List.set_cons_succ])
  ((with_reducible apply E_no); rfl; simp only [Act.put, List.setIfInBounds_toArray, List.set_cons_zero, List.set_cons_succ])
  ((with_reducible apply E_no); rfl; simp only [Act.put, List.setIfInBounds_toArray, List.set_cons_zero, List.set_cons_succ])
  ((with_reducible apply E_no); rfl; simp only [Act.put, List.setIfInBounds_toArray, List.set_cons_zero, List.set_cons_succ])
  ((with_reducible apply E_no); rfl; simp only [Act.put, List.setIfInBounds_toArray, List.set_cons_zero, List.set_cons_succ])
  ((with_reducible apply E_no); rfl; simp only [Act.put, List.setIfInBounds_toArray, List.set_cons_zero, List.set_cons_succ])
  ((with_reducible apply E_run); rfl; rfl; (intro w M; go_simp; (try go_ints); (try simp only [↓IntWalk.iteOmega]); (try with_reducible rfl)); simp only [Act.put, List.setIfInBounds_toArray, List.set_cons_zero, List.set_cons_succ])
  ((with_reducible apply E_run); rfl; rfl; (intro w M; go_simp; (try go_ints); (try simp only [↓IntWalk.iteOmega]); (try with_reducible rfl)); simp only [Act.put, List.setIfInBounds_toArray, List.set_cons_zero, List.set_cons_succ])
  refine E_nil ?_
  intro w9 K M
  replace HR := hid (HR.out.kept K)
  clear K
  refine S_done ?_
  go_wp2_with fail
  refine S_region (by kernel_rfl) ?_
  replace HR := hid (HR.out.kept (Kept.refl [] _).drew)
  refine E_stage 0 19 [0, 1, 2, 3, 4, 5, 6, 7, 8, 9, 10, 11, 12, 13, 14, 15, 16, 17, 18] (by kernel_rfl) M.drew ?_
  clear M
  simp only [List.filterMap_cons, List.filterMap_nil, List.getElem?_cons_zero, List.getElem?_cons_succ]
  ((with_reducible apply E_run); rfl; rfl; (intro w M; go_simp; (try go_ints); (try simp only [↓IntWalk.iteOmega]); (try with_reducible rfl)); simp only [Act.put, List.setIfInBounds_toArray, List.set_cons_zero, List.set_cons_succ])
  ((with_reducible apply E_run); rfl; rfl; (intro w M; go_simp; (try go_ints); (try simp only [↓IntWalk.iteOmega]); (try with_reducible rfl)); simp only [Act.put, List.setIfInBounds_toArray, List.set_cons_zero, List.set_cons_succ])
  ((with_reducible apply E_run); rfl; rfl; (intro w M; go_simp; (try go_ints); (try simp only [↓IntWalk.iteOmega]); (try with_reducible rfl)); simp only [Act.put, List.setIfInBounds_toArray, List.set_cons_zero, List.set_cons_succ])
  ((with_reducible apply E_no); rfl; simp only [Act.put, List.setIfInBounds_toArray, List.set_cons_zero, List.set_cons_succ])
  ((with_reducible apply E_no); rfl; simp only [Act.put, List.setIfInBounds_toArray, List.set_cons_zero, List.set_cons_succ])
  ((with_reducible apply E_no); rfl; simp only [Act.put, List.setIfInBounds_toArray, List.set_cons_zero, List.set_cons_succ])
  ((with_reducible apply E_no); rfl; simp only [Act.put, List.setIfInBounds_toArray, List.set_cons_zero, List.set_cons_succ])
  ((with_reducible apply E_run); rfl; rfl; (intro w M; go_simp; (try go_ints); (try simp only [↓IntWalk.iteOmega]); (try with_reducible rfl)); simp only [Act.put, List.setIfInBounds_toArray, List.set_cons_zero, List.set_cons_succ])
  ((with_reducible apply E_run); rfl; rfl; (intro w M; go_simp; (try go_ints); (try simp only [↓IntWalk.iteOmega]); (try with_reducible rfl)); simp only [Act.put, List.setIfInBounds_toArray, List.set_cons_zero, List.set_cons_succ])
  ((with_reducible apply E_no); rfl; simp only [Act.put, List.setIfInBounds_toArray, List.set_cons_zero, List.set_cons_succ])
  ((with_reducible apply E_no); rfl; simp only [Act.put, List.setIfInBounds_toArray, List.set_cons_zero, List.set_cons_succ])
  ((with_reducible apply E_no); rfl; simp only [Act.put, List.setIfInBounds_toArray, List.set_cons_zero, List.set_cons_succ])
  ((with_reducible apply E_no); rfl; simp only [Act.put, List.setIfInBounds_toArray, List.set_cons_zero, List.set_cons_succ])
  ((with_reducible apply E_no); rfl; simp only [Act.put, List.setIfInBounds_toArray, List.set_cons_zero, List.set_cons_succ])
  ((with_reducible apply E_no); rfl; simp only [Act.put, List.setIfInBounds_toArray, List.set_cons_zero, List.set_cons_succ])
  ((with_reducible apply E_no); rfl; simp only [Act.put, List.setIfInBounds_toArray, List.set_cons_zero, List.set_cons_succ])
  ((with_reducible apply E_no); rfl; simp only [Act.put, List.setIfInBounds_toArray, List.set_cons_zero, List.set_cons_succ])
  ((with_reducible apply E_run); rfl; rfl; (intro w M; go_simp; (try go_ints); (try simp only [↓IntWalk.iteOmega]); (try with_reducible rfl)); simp only [Act.put, List.setIfInBounds_toArray, List.set_cons_zero, List.set_cons_succ])
  ((with_reducible apply E_run); rfl; rfl; (intro w M; go_simp; (try go_ints); (try simp only [↓IntWalk.iteOmega]); (try with_reducible rfl)); simp only [Act.put, List.setIfInBounds_toArray, List.set_cons_zero, List.set_cons_succ])
  refine E_nil ?_
  intro w9 K M
  replace HR := hid (HR.out.kept K)
  clear K
  refine S_done ?_
  go_wp2_with fail
  go_ret2
  exact ⟨_, rfl, HR.out, M.kept⟩

set_option maxHeartbeats 4000000 in
set_option maxRecDepth 100000 in
theorem refusal_sload (st : Value) (fb q m G C : Nat) (fs0 : Array Value) (cv mc : Value) (ns : List Nat) (w : World) (hF : FrameQ w fb q fs0 m G ns mc) (hf : FrC fs0 q cv) (hn : 1 ≤ ns.length) (hn2 : ns.length ≤ 40) (hCG : C ≤ G)
    (hC : ∀ w', Kept [] w w' → Calls Salg.prog 183 #[st, .pointer (some ⟨fb, q, none⟩), .int .u8 84] w' fun e w'' => ∃ r, e = .returned r ∧ NumV w'' r C ∧ Kept [] w' w'') :
    Calls Salg.prog 111 #[st, .pointer (some ⟨fb, q, none⟩), .int .u8 84] w fun e w' => ∃ r, e = .returned (.tuple #[.int .u8 0, r]) ∧ NumV w' r C ∧ Kept [] w w' := by
  have M := Mem.start w []
  obtain ⟨fs, pv, gv, sv, xs, hr, hsz, hfs, h3, hpv, h4, hgv, h8, hsv, hxs, hmv⟩ := hF
  have hxl := hxs.1
  obtain ⟨p, n, cp, rfl⟩ := rowV_slice hsv
  obtain rfl : n = xs.length := by
    rcases hsv with ⟨e, e2⟩ | ⟨g, cap, cur, e, _⟩
    · cases e; subst e2; rfl
    · cases e; rfl
  have h2 := (hfs (q + 2) (by omega) (by omega) (by omega) (by omega)).trans hf.f2
  have HG := hid hgv
  have HC := hid hC
  have d1 : decide ((xs.length : Int) < (1 : Int)) = false := by simp <;> omega
  have d2 : decide ((64 : Int) < (xs.length : Int) - (1 : Int) + (1 : Int)) = false := by simp; omega
  have d3 : decide ((64 : Int) < (xs.length : Int) - (1 : Int)) = false := by simp; omega
  have d4 : decide ((64 : Int) < (xs.length : Int)) = false := by simp; omega
  have d5 : decide ((xs.length : Int) < 0) = false := by simp
  clear hgv hC hfs hsv hxs hpv hf hsz hmv h3
  go_enter Salg.func111, Salg.ntmps111
  go_wp2_with fail
  refine (arity_sload _).mono ?_
  rintro e w1 ⟨rfl, hw⟩
  replace hw := hw.symm
  subst hw
  go_wp2_with (first
    | ((with_reducible apply W_loadCell); rfl; exact M.kept.row hr (by simp); exact h8; exact Salg.underlying140; rfl; simp only [Act.put, List.setIfInBounds_toArray, List.set_cons_zero, List.set_cons_succ])
    | ((with_reducible apply W_loadCell); rfl; exact M.kept.row hr (by simp); exact h2; exact Salg.underlying4; rfl; simp only [Act.put, List.setIfInBounds_toArray, List.set_cons_zero, List.set_cons_succ]))
  refine S_region (by kernel_rfl) ?_
  refine E_stage 0 19 [0, 1, 2, 3, 5, 8, 9, 10, 11, 12, 13, 4, 6, 7, 14, 15, 16, 17, 18] (by kernel_rfl) M.drew ?_
  clear M
  simp only [List.filterMap_cons, List.filterMap_nil, List.getElem?_cons_zero, List.getElem?_cons_succ]
  ((with_reducible apply E_run); rfl; rfl; (intro w M; go_simp; (try go_ints); (try simp only [↓IntWalk.iteOmega]); (try with_reducible rfl)); simp only [Act.put, List.setIfInBounds_toArray, List.set_cons_zero, List.set_cons_succ])
  ((with_reducible apply E_run); rfl; rfl; (intro w M; go_simp; (try go_ints); (try simp only [↓IntWalk.iteOmega]); (try with_reducible rfl)); simp only [Act.put, List.setIfInBounds_toArray, List.set_cons_zero, List.set_cons_succ])
  ((with_reducible apply E_run); rfl; rfl; (intro w M; go_simp; (try go_ints); (try simp only [↓IntWalk.iteOmega]); (try with_reducible rfl)); simp only [Act.put, List.setIfInBounds_toArray, List.set_cons_zero, List.set_cons_succ])
  ((with_reducible apply E_no); rfl; simp only [Act.put, List.setIfInBounds_toArray, List.set_cons_zero, List.set_cons_succ])
  ((with_reducible apply E_no); rfl; simp only [Act.put, List.setIfInBounds_toArray, List.set_cons_zero, List.set_cons_succ])
  ((with_reducible apply E_no); rfl; simp only [Act.put, List.setIfInBounds_toArray, List.set_cons_zero, List.set_cons_succ])
  ((with_reducible apply E_no); rfl; simp only [Act.put, List.setIfInBounds_toArray, List.set_cons_zero, List.set_cons_succ])
  ((with_reducible apply E_no); rfl; simp only [Act.put, List.setIfInBounds_toArray, List.set_cons_zero, List.set_cons_succ])
  ((with_reducible apply E_no); rfl; simp only [Act.put, List.setIfInBounds_toArray, List.set_cons_zero, List.set_cons_succ])
  ((with_reducible apply E_no); rfl; simp only [Act.put, List.setIfInBounds_toArray, List.set_cons_zero, List.set_cons_succ])
  ((with_reducible apply E_no); rfl; simp only [Act.put, List.setIfInBounds_toArray, List.set_cons_zero, List.set_cons_succ])
  ((with_reducible apply E_no); rfl; simp only [Act.put, List.setIfInBounds_toArray, List.set_cons_zero, List.set_cons_succ])
  ((with_reducible apply E_no); rfl; simp only [Act.put, List.setIfInBounds_toArray, List.set_cons_zero, List.set_cons_succ])
  ((with_reducible apply E_no); rfl; simp only [Act.put, List.setIfInBounds_toArray, List.set_cons_zero, List.set_cons_succ])
  ((with_reducible apply E_no); rfl; simp only [Act.put, List.setIfInBounds_toArray, List.set_cons_zero, List.set_cons_succ])
  ((with_reducible apply E_no); rfl; simp only [Act.put, List.setIfInBounds_toArray, List.set_cons_zero, List.set_cons_succ])
  ((with_reducible apply E_no); rfl; simp only [Act.put, List.setIfInBounds_toArray, List.set_cons_zero, List.set_cons_succ])
  ((with_reducible apply E_run); rfl; rfl; (intro w M; go_simp; (try go_ints); (try simp only [↓IntWalk.iteOmega]); (try with_reducible rfl)); simp only [Act.put, List.setIfInBounds_toArray, List.set_cons_zero, List.set_cons_succ])
  ((with_reducible apply E_run); rfl; rfl; (intro w M; go_simp; (try go_ints); (try simp only [↓IntWalk.iteOmega]); (try with_reducible rfl)); simp only [Act.put, List.setIfInBounds_toArray, List.set_cons_zero, List.set_cons_succ])
  refine E_nil ?_
  intro w9 K M
  clear K
  refine S_done ?_
  go_wp2_with fail
  refine (HC.out _ M.kept).mono ?_
  rintro e w2 ⟨r, rfl, xHR, K⟩
  have HR := hid xHR
  replace M := M.call K
  clear K xHR
  go_wp2_with ((with_reducible apply W_loadCell); rfl; exact M.kept.row hr (by simp); exact h4; exact Salg.underlying89; rfl; simp only [Act.put, List.setIfInBounds_toArray, List.set_cons_zero, List.set_cons_succ])
  refine (cmp_num r gv C G _ HR.out (HG.out.kept M.kept)).mono ?_
  rintro e w3 ⟨rfl, K⟩
  replace HR := hid (HR.out.kept K)
  replace M := M.call K
  clear K
  have hz : decide ((0 : Int) < cmpI C G) = false := by
    unfold cmpI
    split
    · rfl
    · rw [if_neg (by omega)]; rfl
  go_wp2_with fail
  refine S_region (by kernel_rfl) ?_
  replace HR := hid (HR.out.kept (Kept.refl [] _).drew)
  refine E_stage 0 12 [0, 1, 2, 3, 4, 5, 6, 7, 8, 9, 10, 11] (by kernel_rfl) M.drew ?_
  clear M
  simp only [List.filterMap_cons, List.filterMap_nil, List.getElem?_cons_zero, List.getElem?_cons_succ]
  ((with_reducible apply E_run); rfl; rfl; (intro w M; go_simp; (try go_ints); (try simp only [↓IntWalk.iteOmega]); (try with_reducible rfl)); simp only [Act.put, List.setIfInBounds_toArray, List.set_cons_zero, List.set_cons_succ])
  ((with_reducible apply E_run); rfl; rfl; (intro w M; go_simp; (try go_ints); (try simp only [↓IntWalk.iteOmega]); (try with_reducible rfl)); simp only [Act.put, List.setIfInBounds_toArray, List.set_cons_zero, List.set_cons_succ])
  ((with_reducible apply E_run); rfl; rfl; (intro w M; go_simp; (try go_ints); (try simp only [↓IntWalk.iteOmega]); (try with_reducible rfl)); simp only [Act.put, List.setIfInBounds_toArray, List.set_cons_zero, List.set_cons_succ])
  ((with_reducible apply E_no); rfl; simp only [Act.put, List.setIfInBounds_toArray, List.set_cons_zero, List.set_cons_succ])
  ((with_reducible apply E_no); rfl; simp only [Act.put, List.setIfInBounds_toArray, List.set_cons_zero, List.set_cons_succ])
  ((with_reducible apply E_no); rfl; simp only [Act.put, List.setIfInBounds_toArray, List.set_cons_zero, List.set_cons_succ])
  ((with_reducible apply E_no); rfl; simp only [Act.put, List.setIfInBounds_toArray, List.set_cons_zero, List.set_cons_succ])
  ((with_reducible apply E_no); rfl; simp only [Act.put, List.setIfInBounds_toArray, List.set_cons_zero, List.set_cons_succ])
  ((with_reducible apply E_no); rfl; simp only [Act.put, List.setIfInBounds_toArray, List.set_cons_zero, List.set_cons_succ])
  ((with_reducible apply E_no); rfl; simp only [Act.put, List.setIfInBounds_toArray, List.set_cons_zero, List.set_cons_succ])
  ((with_reducible apply E_run); rfl; rfl; (intro w M; go_simp; (try go_ints); (try simp only [↓IntWalk.iteOmega]); (try with_reducible rfl)); simp only [Act.put, List.setIfInBounds_toArray, List.set_cons_zero, List.set_cons_succ])
  ((with_reducible apply E_run); rfl; rfl; (intro w M; go_simp; (try go_ints); (try simp only [↓IntWalk.iteOmega]); (try with_reducible rfl)); simp only [Act.put, List.setIfInBounds_toArray, List.set_cons_zero, List.set_cons_succ])
  refine E_nil ?_
  intro w9 K M
  replace HR := hid (HR.out.kept K)
  clear K
  refine S_done ?_
  go_wp2_with fail
  refine S_region (by kernel_rfl) ?_
  replace HR := hid (HR.out.kept (Kept.refl [] _).drew)
  refine E_stage 0 13 [0, 1, 2, 3, 4, 5, 6, 7, 8, 9, 10, 11, 12] (by kernel_rfl) M.drew ?_
  clear M
  simp only [List.filterMap_cons, List.filterMap_nil, List.getElem?_cons_zero, List.getElem?_cons_succ]
  ((with_reducible apply E_run); rfl; rfl; (intro w M; go_simp; (try go_ints); (try simp only [↓IntWalk.iteOmega]); (try with_reducible rfl)); simp only [Act.put, List.setIfInBounds_toArray, List.set_cons_zero, List.set_cons_succ])
  ((with_reducible apply E_run); rfl; rfl; (intro w M; go_simp; (try go_ints); (try simp only [↓IntWalk.iteOmega]); (try with_reducible rfl)); simp only [Act.put, List.setIfInBounds_toArray, List.set_cons_zero, List.set_cons_succ])
  ((with_reducible apply E_run); rfl; rfl; (intro w M; go_simp; (try go_ints); (try simp only [↓IntWalk.iteOmega]); (try with_reducible rfl)); simp only [Act.put, List.setIfInBounds_toArray, List.set_cons_zero, List.set_cons_succ])
  ((with_reducible apply E_no); rfl; simp only [Act.put, List.setIfInBounds_toArray, List.set_cons_zero, List.set_cons_succ])
  ((with_reducible apply E_no); rfl; simp only [Act.put, List.setIfInBounds_toArray, List.set_cons_zero, List.set_cons_succ])
  ((with_reducible apply E_no); rfl; simp only [Act.put, List.setIfInBounds_toArray, List.set_cons_zero, List.set_cons_succ])
  ((with_reducible apply E_no); rfl; simp only [Act.put, List.setIfInBounds_toArray, List.set_cons_zero, List.set_cons_succ])
  ((with_reducible apply E_no); rfl; simp only [Act.put, List.setIfInBounds_toArray, List.set_cons_zero, List.set_cons_succ])
  ((with_reducible apply E_no); rfl; simp only [Act.put, List.setIfInBounds_toArray, List.set_cons_zero, List.set_cons_succ])
  ((with_reducible apply E_no); rfl; simp only [Act.put, List.setIfInBounds_toArray, List.set_cons_zero, List.set_cons_succ])
  ((with_reducible apply E_no); rfl; simp only [Act.put, List.setIfInBounds_toArray, List.set_cons_zero, List.set_cons_succ])
  ((with_reducible apply E_run); rfl; rfl; (intro w M; go_simp; (try go_ints); (try simp only [↓IntWalk.iteOmega]); (try with_reducible rfl)); simp only [Act.put, List.setIfInBounds_toArray, List.set_cons_zero, List.set_cons_succ])
  ((with_reducible apply E_run); rfl; rfl; (intro w M; go_simp; (try go_ints); (try simp only [↓IntWalk.iteOmega]); (try with_reducible rfl)); simp only [Act.put, List.setIfInBounds_toArray, List.set_cons_zero, List.set_cons_succ])
  refine E_nil ?_
  intro w9 K M
  replace HR := hid (HR.out.kept K)
  clear K
  refine S_done ?_
  go_wp2_with fail
  refine S_region (by kernel_rfl) ?_
  replace HR := hid (HR.out.kept (Kept.refl [] _).drew)
  refine E_stage 0 19 [0, 1, 2, 3, 4, 5, 6, 7, 8, 9, 10, 11, 12, 13, 14, 15, 16, 17, 18] (by kernel_rfl) M.drew ?_
  clear M
  simp only [List.filterMap_cons, List.filterMap_nil, List.getElem?_cons_zero, List.getElem?_cons_succ]
  ((with_reducible apply E_run); rfl; rfl; (intro w M; go_simp; (try go_ints); (try simp only [↓IntWalk.iteOmega]); (try with_reducible rfl)); simp only [Act.put, List.setIfInBounds_toArray, List.set_cons_zero, List.set_cons_succ])
  ((with_reducible apply E_run); rfl; rfl; (intro w M; go_simp; (try go_ints); (try simp only [↓IntWalk.iteOmega]); (try with_reducible rfl)); simp only [Act.put, List.setIfInBounds_toArray, List.set_cons_zero, List.set_cons_succ])
  ((with_reducible apply E_run); rfl; rfl; (intro w M; go_simp; (try go_ints); (try simp only [↓IntWalk.iteOmega]); (try with_reducible rfl)); simp only [Act.put, List.setIfInBounds_toArray, List.set_cons_zero, List.set_cons_succ])
  ((with_reducible apply E_no); rfl; simp only [Act.put, List.setIfInBounds_toArray, List.set_cons_zero, List.set_cons_succ])
  ((with_reducible apply E_no); rfl; simp only [Act.put, List.setIfInBounds_toArray, List.set_cons_zero, List.set_cons_succ])
  ((with_reducible apply E_no); rfl; simp only [Act.put, List.setIfInBounds_toArray, List.set_cons_zero, List.set_cons_succ])
  ((with_reducible apply E_no); rfl; simp only [Act.put, List.setIfInBounds_toArray, List.set_cons_zero, List.set_cons_succ])
  ((with_reducible apply E_run); rfl; rfl; (intro w M; go_simp; (try go_ints); (try simp only [↓IntWalk.iteOmega]); (try with_reducible rfl)); simp only [Act.put, List.setIfInBounds_toArray, List.set_cons_zero, List.set_cons_succ])
  ((with_reducible apply E_run); rfl; rfl; (intro w M; go_simp; (try go_ints); (try simp only [↓IntWalk.iteOmega]); (try with_reducible rfl)); simp only [Act.put, List.setIfInBounds_toArray, List.set_cons_zero, List.set_cons_succ])
  ((with_reducible apply E_no); rfl; simp only [Act.put, List.setIfInBounds_toArray, List.set_cons_zero, List.set_cons_succ])
  ((with_reducible apply E_no); rfl; simp only [Act.put, List.setIfInBounds_toArray, List.set_cons_zero, List.set_cons_succ])
  ((with_reducible apply E_no); rfl; simp only [Act.put, List.setIfInBounds_toArray, List.set_cons_zero, List.set_cons_succ])
  ((with_reducible apply E_no); rfl; simp only [Act.put, List.setIfInBounds_toArray, List.set_cons_zero, List.set_cons_succ])
  ((with_reducible apply E_no); rfl; simp only [Act.put, List.setIfInBounds_toArray, List.set_cons_zero, List.set_cons_succ])
  ((with_reducible apply E_no); rfl; simp only [Act.put, List.setIfInBounds_toArray, List.set_cons_zero, List.set_cons_succ])
  ((with_reducible apply E_no); rfl; simp only [Act.put, List.setIfInBounds_toArray, List.set_cons_zero, List.set_cons_succ])
  ((with_reducible apply E_no); rfl; simp only [Act.put, List.setIfInBounds_toArray, List.set_cons_zero, List.set_cons_succ])
  ((with_reducible apply E_run); rfl; rfl; (intro w M; go_simp; (try go_ints); (try simp only [↓IntWalk.iteOmega]); (try with_reducible rfl)); simp only [Act.put, List.setIfInBounds_toArray, List.set_cons_zero, List.set_cons_succ])
  ((with_reducible apply E_run); rfl; rfl; (intro w M; go_simp; (try go_ints); (try simp only [↓IntWalk.iteOmega]); (try with_reducible rfl)); simp only [Act.put, List.setIfInBounds_toArray, List.set_cons_zero, List.set_cons_succ])
  refine E_nil ?_
  intro w9 K M
  replace HR := hid (HR.out.kept K)
  clear K
  refine S_done ?_
  go_wp2_with fail
  go_ret2
  exact ⟨_, rfl, HR.out, M.kept⟩

set_option maxHeartbeats 4000000 in
set_option maxRecDepth 100000 in
theorem refusal_mstore (st : Value) (fb q m G C : Nat) (fs0 : Array Value) (cv mc : Value) (ns : List Nat) (w : World) (hF : FrameQ w fb q fs0 m G ns mc) (hf : FrC fs0 q cv) (hn : 2 ≤ ns.length) (hn2 : ns.length ≤ 40) (hCG : C ≤ G)
    (hC : ∀ w', Kept [] w w' → Calls Salg.prog 183 #[st, .pointer (some ⟨fb, q, none⟩), .int .u8 82] w' fun e w'' => ∃ r, e = .returned r ∧ NumV w'' r C ∧ Kept [] w' w'') :
    Calls Salg.prog 111 #[st, .pointer (some ⟨fb, q, none⟩), .int .u8 82] w fun e w' => ∃ r, e = .returned (.tuple #[.int .u8 0, r]) ∧ NumV w' r C ∧ Kept [] w w' := by
  have M := Mem.start w []
  obtain ⟨fs, pv, gv, sv, xs, hr, hsz, hfs, h3, hpv, h4, hgv, h8, hsv, hxs, hmv⟩ := hF
  have hxl := hxs.1
  obtain ⟨p, n, cp, rfl⟩ := rowV_slice hsv
  obtain rfl : n = xs.length := by
    rcases hsv with ⟨e, e2⟩ | ⟨g, cap, cur, e, _⟩
    · cases e; subst e2; rfl
    · cases e; rfl
  have h2 := (hfs (q + 2) (by omega) (by omega) (by omega) (by omega)).trans hf.f2
  have HG := hid hgv
  have HC := hid hC
  have d1 : decide ((xs.length : Int) < (2 : Int)) = false := by simp <;> omega
  have d2 : decide ((64 : Int) < (xs.length : Int) - (2 : Int) + (0 : Int)) = false := by simp; omega
  have d3 : decide ((64 : Int) < (xs.length : Int) - (2 : Int)) = false := by simp; omega
  have d4 : decide ((64 : Int) < (xs.length : Int)) = false := by simp; omega
  have d5 : decide ((xs.length : Int) < 0) = false := by simp
  clear hgv hC hfs hsv hxs hpv hf hsz hmv h3
  go_enter Salg.func111, Salg.ntmps111
  go_wp2_with fail
  refine (arity_mstore _).mono ?_
  rintro e w1 ⟨rfl, hw⟩
  replace hw := hw.symm
  subst hw
  go_wp2_with (first
    | ((with_reducible apply W_loadCell); rfl; exact M.kept.row hr (by simp); exact h8; exact Salg.underlying140; rfl; simp only [Act.put, List.setIfInBounds_toArray, List.set_cons_zero, List.set_cons_succ])
    | ((with_reducible apply W_loadCell); rfl; exact M.kept.row hr (by simp); exact h2; exact Salg.underlying4; rfl; simp only [Act.put, List.setIfInBounds_toArray, List.set_cons_zero, List.set_cons_succ]))
  refine S_region (by kernel_rfl) ?_
  refine E_stage 0 19 [0, 1, 2, 3, 5, 8, 9, 10, 11, 12, 13, 4, 6, 7, 14, 15, 16, 17, 18] (by kernel_rfl) M.drew ?_
  clear M
  simp only [List.filterMap_cons, List.filterMap_nil, List.getElem?_cons_zero, List.getElem?_cons_succ]
  ((with_reducible apply E_run); rfl; rfl; (intro w M; go_simp; (try go_ints); (try simp only [↓IntWalk.iteOmega]); (try with_reducible rfl)); simp only [Act.put, List.setIfInBounds_toArray, List.set_cons_zero, List.set_cons_succ])
  ((with_reducible apply E_run); rfl; rfl; (intro w M; go_simp; (try go_ints); (try simp only [↓IntWalk.iteOmega]); (try with_reducible rfl)); simp only [Act.put, List.setIfInBounds_toArray, List.set_cons_zero, List.set_cons_succ])
  ((with_reducible apply E_run); rfl; rfl; (intro w M; go_simp; (try go_ints); (try simp only [↓IntWalk.iteOmega]); (try with_reducible rfl)); simp only [Act.put, List.setIfInBounds_toArray, List.set_cons_zero, List.set_cons_succ])
  ((with_reducible apply E_no); rfl; simp only [Act.put, List.setIfInBounds_toArray, List.set_cons_zero, List.set_cons_succ])
  ((with_reducible apply E_no); rfl; simp only [Act.put, List.setIfInBounds_toArray, List.set_cons_zero, List.set_cons_succ])
  ((with_reducible apply E_no); rfl; simp only [Act.put, List.setIfInBounds_toArray, List.set_cons_zero, List.set_cons_succ])
  ((with_reducible apply E_no); rfl; simp only [Act.put, List.setIfInBounds_toArray, List.set_cons_zero, List.set_cons_succ])
  ((with_reducible apply E_no); rfl; simp only [Act.put, List.setIfInBounds_toArray, List.set_cons_zero, List.set_cons_succ])
  ((with_reducible apply E_no); rfl; simp only [Act.put, List.setIfInBounds_toArray, List.set_cons_zero, List.set_cons_succ])
  ((with_reducible apply E_no); rfl; simp only [Act.put, List.setIfInBounds_toArray, List.set_cons_zero, List.set_cons_succ])
  ((with_reducible apply E_no); rfl; simp only [Act.put, List.setIfInBounds_toArray, List.set_cons_zero, List.set_cons_succ])
  ((with_reducible apply E_no); rfl; simp only [Act.put, List.setIfInBounds_toArray, List.set_cons_zero, List.set_cons_succ])
  ((with_reducible apply E_no); rfl; simp only [Act.put, List.setIfInBounds_toArray, List.set_cons_zero, List.set_cons_succ])
  ((with_reducible apply E_no); rfl; simp only [Act.put, List.setIfInBounds_toArray, List.set_cons_zero, List.set_cons_succ])
  ((with_reducible apply E_no); rfl; simp only [Act.put, List.setIfInBounds_toArray, List.set_cons_zero, List.set_cons_succ])
  ((with_reducible apply E_no); rfl; simp only [Act.put, List.setIfInBounds_toArray, List.set_cons_zero, List.set_cons_succ])
  ((with_reducible apply E_no); rfl; simp only [Act.put, List.setIfInBounds_toArray, List.set_cons_zero, List.set_cons_succ])
  ((with_reducible apply E_run); rfl; rfl; (intro w M; go_simp; (try go_ints); (try simp only [↓IntWalk.iteOmega]); (try with_reducible rfl)); simp only [Act.put, List.setIfInBounds_toArray, List.set_cons_zero, List.set_cons_succ])
  ((with_reducible apply E_run); rfl; rfl; (intro w M; go_simp; (try go_ints); (try simp only [↓IntWalk.iteOmega]); (try with_reducible rfl)); simp only [Act.put, List.setIfInBounds_toArray, List.set_cons_zero, List.set_cons_succ])
  refine E_nil ?_
  intro w9 K M
  clear K
  refine S_done ?_
  go_wp2_with fail
  refine (HC.out _ M.kept).mono ?_
  rintro e w2 ⟨r, rfl, xHR, K⟩
  have HR := hid xHR
  replace M := M.call K
  clear K xHR
  go_wp2_with ((with_reducible apply W_loadCell); rfl; exact M.kept.row hr (by simp); exact h4; exact Salg.underlying89; rfl; simp only [Act.put, List.setIfInBounds_toArray, List.set_cons_zero, List.set_cons_succ])
  refine (cmp_num r gv C G _ HR.out (HG.out.kept M.kept)).mono ?_
  rintro e w3 ⟨rfl, K⟩
  replace HR := hid (HR.out.kept K)
  replace M := M.call K
  clear K
  have hz : decide ((0 : Int) < cmpI C G) = false := by
    unfold cmpI
    split
    · rfl
    · rw [if_neg (by omega)]; rfl
  go_wp2_with fail
  refine S_region (by kernel_rfl) ?_
  replace HR := hid (HR.out.kept (Kept.refl [] _).drew)
  refine E_stage 0 12 [0, 1, 2, 3, 4, 5, 6, 7, 8, 9, 10, 11] (by kernel_rfl) M.drew ?_
  clear M
  simp only [List.filterMap_cons, List.filterMap_nil, List.getElem?_cons_zero, List.getElem?_cons_succ]
  ((with_reducible apply E_run); rfl; rfl; (intro w M; go_simp; (try go_ints); (try simp only [↓IntWalk.iteOmega]); (try with_reducible rfl)); simp only [Act.put, List.setIfInBounds_toArray, List.set_cons_zero, List.set_cons_succ])
  ((with_reducible apply E_run); rfl; rfl; (intro w M; go_simp; (try go_ints); (try simp only [↓IntWalk.iteOmega]); (try with_reducible rfl)); simp only [Act.put, List.setIfInBounds_toArray, List.set_cons_zero, List.set_cons_succ])
  ((with_reducible apply E_run); rfl; rfl; (intro w M; go_simp; (try go_ints); (try simp only [↓IntWalk.iteOmega]); (try with_reducible rfl)); simp only [Act.put, List.setIfInBounds_toArray, List.set_cons_zero, List.set_cons_succ])
  ((with_reducible apply E_no); rfl; simp only [Act.put, List.setIfInBounds_toArray, List.set_cons_zero, List.set_cons_succ])
  ((with_reducible apply E_no); rfl; simp only [Act.put, List.setIfInBounds_toArray, List.set_cons_zero, List.set_cons_succ])
  ((with_reducible apply E_no); rfl; simp only [Act.put, List.setIfInBounds_toArray, List.set_cons_zero, List.set_cons_succ])
  ((with_reducible apply E_no); rfl; simp only [Act.put, List.setIfInBounds_toArray, List.set_cons_zero, List.set_cons_succ])
  ((with_reducible apply E_no); rfl; simp only [Act.put, List.setIfInBounds_toArray, List.set_cons_zero, List.set_cons_succ])
  ((with_reducible apply E_no); rfl; simp only [Act.put, List.setIfInBounds_toArray, List.set_cons_zero, List.set_cons_succ])
  ((with_reducible apply E_no); rfl; simp only [Act.put, List.setIfInBounds_toArray, List.set_cons_zero, List.set_cons_succ])
  ((with_reducible apply E_run); rfl; rfl; (intro w M; go_simp; (try go_ints); (try simp only [↓IntWalk.iteOmega]); (try with_reducible rfl)); simp only [Act.put, List.setIfInBounds_toArray, List.set_cons_zero, List.set_cons_succ])
  ((with_reducible apply E_run); rfl; rfl; (intro w M; go_simp; (try go_ints); (try simp only [↓IntWalk.iteOmega]); (try with_reducible rfl)); simp only [Act.put, List.setIfInBounds_toArray, List.set_cons_zero, List.set_cons_succ])
  refine E_nil ?_
  intro w9 K M
  replace HR := hid (HR.out.kept K)
  clear K
  refine S_done ?_
  go_wp2_with fail
  refine S_region (by kernel_rfl) ?_
  replace HR := hid (HR.out.kept (Kept.refl [] _).drew)
  refine E_stage 0 13 [0, 1, 2, 3, 4, 5, 6, 7, 8, 9, 10, 11, 12] (by kernel_rfl) M.drew ?_
  clear M
  simp only [List.filterMap_cons, List.filterMap_nil, List.getElem?_cons_zero, List.getElem?_cons_succ]
  ((with_reducible apply E_run); rfl; rfl; (intro w M; go_simp; (try go_ints); (try simp only [↓IntWalk.iteOmega]); (try with_reducible rfl)); simp only [Act.put, List.setIfInBounds_toArray, List.set_cons_zero, List.set_cons_succ])
  ((with_reducible apply E_run); rfl; rfl; (intro w M; go_simp; (try go_ints); (try simp only [↓IntWalk.iteOmega]); (try with_reducible rfl)); simp only [Act.put, List.setIfInBounds_toArray, List.set_cons_zero, List.set_cons_succ])
  ((with_reducible apply E_run); rfl; rfl; (intro w M; go_simp; (try go_ints); (try simp only [↓IntWalk.iteOmega]); (try with_reducible rfl)); simp only [Act.put, List.setIfInBounds_toArray, List.set_cons_zero, List.set_cons_succ])
  ((with_reducible apply E_no); rfl; simp only [Act.put, List.setIfInBounds_toArray, List.set_cons_zero, List.set_cons_succ])
  ((with_reducible apply E_no); rfl; simp only [Act.put, List.setIfInBounds_toArray, List.set_cons_zero, List.set_cons_succ])
  ((with_reducible apply E_no); rfl; simp only [Act.put, List.setIfInBounds_toArray, List.set_cons_zero, List.set_cons_succ])
  ((with_reducible apply E_no); rfl; simp only [Act.put, List.setIfInBounds_toArray, List.set_cons_zero, List.set_cons_succ])
  ((with_reducible apply E_no); rfl; simp only [Act.put, List.setIfInBounds_toArray, List.set_cons_zero, List.set_cons_succ])
  ((with_reducible apply E_no); rfl; simp only [Act.put, List.setIfInBounds_toArray, List.set_cons_zero, List.set_cons_succ])
  ((with_reducible apply E_no); rfl; simp only [Act.put, List.setIfInBounds_toArray, List.set_cons_zero, List.set_cons_succ])
  ((with_reducible apply E_no); rfl; simp only [Act.put, List.setIfInBounds_toArray, List.set_cons_zero, List.set_cons_succ])
  ((with_reducible apply E_run); rfl; rfl; (intro w M; go_simp; (try go_ints); (try simp only [↓IntWalk.iteOmega]); (try with_reducible rfl)); simp only [Act.put, List.setIfInBounds_toArray, List.set_cons_zero, List.set_cons_succ])
  ((with_reducible apply E_run); rfl; rfl; (intro w M; go_simp; (try go_ints); (try simp only [↓IntWalk.iteOmega]); (try with_reducible rfl)); simp only [Act.put, List.setIfInBounds_toArray, List.set_cons_zero, List.set_cons_succ])
  refine E_nil ?_
  intro w9 K M
  replace HR := hid (HR.out.kept K)
  clear K
  refine S_done ?_
  go_wp2_with fail
  refine S_region (by kernel_rfl) ?_
  replace HR := hid (HR.out.kept (Kept.refl [] _).drew)
  refine E_stage 0 19 [0, 1, 2, 3, 4, 5, 6, 7, 8, 9, 10, 11, 12, 13, 14, 15, 16, 17, 18] (by kernel_rfl) M.drew ?_
  clear M
  simp only [List.filterMap_cons, List.filterMap_nil, List.getElem?_cons_zero, List.getElem?_cons_succ]
  ((with_reducible apply E_run); rfl; rfl; (intro w M; go_simp; (try go_ints); (try simp only [↓IntWalk.iteOmega]); (try with_reducible rfl)); simp only [Act.put, List.setIfInBounds_toArray, List.set_cons_zero, List.set_cons_succ])
  ((with_reducible apply E_run); rfl; rfl; (intro w M; go_simp; (try go_ints); (try simp only [↓IntWalk.iteOmega]); (try with_reducible rfl)); simp only [Act.put, List.setIfInBounds_toArray, List.set_cons_zero, List.set_cons_succ])
  ((with_reducible apply E_run); rfl; rfl; (intro w M; go_simp; (try go_ints); (try simp only [↓IntWalk.iteOmega]); (try with_reducible rfl)); simp only [Act.put, List.setIfInBounds_toArray, List.set_cons_zero, List.set_cons_succ])
  ((with_reducible apply E_no); rfl; simp only [Act.put, List.setIfInBounds_toArray, List.set_cons_zero, List.set_cons_succ])
  ((with_reducible apply E_no); rfl; simp only [Act.put, List.setIfInBounds_toArray, List.set_cons_zero, List.set_cons_succ])
  ((with_reducible apply E_no); rfl; simp only [Act.put, List.setIfInBounds_toArray, List.set_cons_zero, List.set_cons_succ])
  ((with_reducible apply E_no); rfl; simp only [Act.put, List.setIfInBounds_toArray, List.set_cons_zero, List.set_cons_succ])
  ((with_reducible apply E_run); rfl; rfl; (intro w M; go_simp; (try go_ints); (try simp only [↓IntWalk.iteOmega]); (try with_reducible rfl)); simp only [Act.put, List.setIfInBounds_toArray, List.set_cons_zero, List.set_cons_succ])
  ((with_reducible apply E_run); rfl; rfl; (intro w M; go_simp; (try go_ints); (try simp only [↓IntWalk.iteOmega]); (try with_reducible rfl)); simp only [Act.put, List.setIfInBounds_toArray, List.set_cons_zero, List.set_cons_succ])
  ((with_reducible apply E_no); rfl; simp only [Act.put, List.setIfInBounds_toArray, List.set_cons_zero, List.set_cons_succ])
  ((with_reducible apply E_no); rfl; simp only [Act.put, List.setIfInBounds_toArray, List.set_cons_zero, List.set_cons_succ])
  ((with_reducible apply E_no); rfl; simp only [Act.put, List.setIfInBounds_toArray, List.set_cons_zero, List.set_cons_succ])
  ((with_reducible apply E_no); rfl; simp only [Act.put, List.setIfInBounds_toArray, List.set_cons_zero, List.set_cons_succ])
  ((with_reducible apply E_no); rfl; simp only [Act.put, List.setIfInBounds_toArray, List.set_cons_zero, List.set_cons_succ])
  ((with_reducible apply E_no); rfl; simp only [Act.put, List.setIfInBounds_toArray, List.set_cons_zero, List.set_cons_succ])
  ((with_reducible apply E_no); rfl; simp only [Act.put, List.setIfInBounds_toArray, List.set_cons_zero, List.set_cons_succ])
  ((with_reducible apply E_no); rfl; simp only [Act.put, List.setIfInBounds_toArray, List.set_cons_zero, List.set_cons_succ])
  ((with_reducible apply E_run); rfl; rfl; (intro w M; go_simp; (try go_ints); (try simp only [↓IntWalk.iteOmega]); (try with_reducible rfl)); simp only [Act.put, List.setIfInBounds_toArray, List.set_cons_zero, List.set_cons_succ])
  ((with_reducible apply E_run); rfl; rfl; (intro w M; go_simp; (try go_ints); (try simp only [↓IntWalk.iteOmega]); (try with_reducible rfl)); simp only [Act.put, List.setIfInBounds_toArray, List.set_cons_zero, List.set_cons_succ])
  refine E_nil ?_
  intro w9 K M
  replace HR := hid (HR.out.kept K)
  clear K
  refine S_done ?_
  go_wp2_with fail
  go_ret2
  exact ⟨_, rfl, HR.out, M.kept⟩

set_option maxHeartbeats 4000000 in
set_option maxRecDepth 100000 in
theorem refusal_return (st : Value) (fb q m G C : Nat) (fs0 : Array Value) (cv mc : Value) (ns : List Nat) (w : World) (hF : FrameQ w fb q fs0 m G ns mc) (hf : FrC fs0 q cv) (hn : 2 ≤ ns.length) (hn2 : ns.length ≤ 40) (hCG : C ≤ G)
    (hC : ∀ w', Kept [] w w' → Calls Salg.prog 183 #[st, .pointer (some ⟨fb, q, none⟩), .int .u8 243] w' fun e w'' => ∃ r, e = .returned r ∧ NumV w'' r C ∧ Kept [] w' w'') :
    Calls Salg.prog 111 #[st, .pointer (some ⟨fb, q, none⟩), .int .u8 243] w fun e w' => ∃ r, e = .returned (.tuple #[.int .u8 0, r]) ∧ NumV w' r C ∧ Kept [] w w' := by
  have M := Mem.start w []
  obtain ⟨fs, pv, gv, sv, xs, hr, hsz, hfs, h3, hpv, h4, hgv, h8, hsv, hxs, hmv⟩ := hF
  have hxl := hxs.1
  obtain ⟨p, n, cp, rfl⟩ := rowV_slice hsv
  obtain rfl : n = xs.length := by
    rcases hsv with ⟨e, e2⟩ | ⟨g, cap, cur, e, _⟩
    · cases e; subst e2; rfl
    · cases e; rfl
  have h2 := (hfs (q + 2) (by omega) (by omega) (by omega) (by omega)).trans hf.f2
  have HG := hid hgv
  have HC := hid hC
  have d1 : decide ((xs.length : Int) < (2 : Int)) = false := by simp <;> omega
  have d2 : decide ((64 : Int) < (xs.length : Int) - (2 : Int) + (0 : Int)) = false := by simp; omega
  have d3 : decide ((64 : Int) < (xs.length : Int) - (2 : Int)) = false := by simp; omega
  have d4 : decide ((64 : Int) < (xs.length : Int)) = false := by simp; omega
  have d5 : decide ((xs.length : Int) < 0) = false := by simp
  clear hgv hC hfs hsv hxs hpv hf hsz hmv h3
  go_enter Salg.func111, Salg.ntmps111
  go_wp2_with fail
  refine (arity_return _).mono ?_
  rintro e w1 ⟨rfl, hw⟩
  replace hw := hw.symm
  subst hw
  go_wp2_with (first
    | ((with_reducible apply W_loadCell); rfl; exact M.kept.row hr (by simp); exact h8; exact Salg.underlying140; rfl; simp only [Act.put, List.setIfInBounds_toArray, List.set_cons_zero, List.set_cons_succ])
    | ((with_reducible apply W_loadCell); rfl; exact M.kept.row hr (by simp); exact h2; exact Salg.underlying4; rfl; simp only [Act.put, List.setIfInBounds_toArray, List.set_cons_zero, List.set_cons_succ]))
  refine S_region (by kernel_rfl) ?_
  refine E_stage 0 19 [0, 1, 2, 3, 5, 8, 9, 10, 11, 12, 13, 4, 6, 7, 14, 15, 16, 17, 18] (by kernel_rfl) M.drew ?_
  clear M
  simp only [List.filterMap_cons, List.filterMap_nil, List.getElem?_cons_zero, List.getElem?_cons_succ]
  ((with_reducible apply E_run); rfl; rfl; (intro w M; go_simp; (try go_ints); (try simp only [↓IntWalk.iteOmega]); (try with_reducible rfl)); simp only [Act.put, List.setIfInBounds_toArray, List.set_cons_zero, List.set_cons_succ])
  ((with_reducible apply E_run); rfl; rfl; (intro w M; go_simp; (try go_ints); (try simp only [↓IntWalk.iteOmega]); (try with_reducible rfl)); simp only [Act.put, List.setIfInBounds_toArray, List.set_cons_zero, List.set_cons_succ])
  ((with_reducible apply E_run); rfl; rfl; (intro w M; go_simp; (try go_ints); (try simp only [↓IntWalk.iteOmega]); (try with_reducible rfl)); simp only [Act.put, List.setIfInBounds_toArray, List.set_cons_zero, List.set_cons_succ])
  ((with_reducible apply E_no); rfl; simp only [Act.put, List.setIfInBounds_toArray, List.set_cons_zero, List.set_cons_succ])
  ((with_reducible apply E_no); rfl; simp only [Act.put, List.setIfInBounds_toArray, List.set_cons_zero, List.set_cons_succ])
  ((with_reducible apply E_no); rfl; simp only [Act.put, List.setIfInBounds_toArray, List.set_cons_zero, List.set_cons_succ])
  ((with_reducible apply E_no); rfl; simp only [Act.put, List.setIfInBounds_toArray, List.set_cons_zero, List.set_cons_succ])
  ((with_reducible apply E_no); rfl; simp only [Act.put, List.setIfInBounds_toArray, List.set_cons_zero, List.set_cons_succ])
  ((with_reducible apply E_no); rfl; simp only [Act.put, List.setIfInBounds_toArray, List.set_cons_zero, List.set_cons_succ])
  ((with_reducible apply E_no); rfl; simp only [Act.put, List.setIfInBounds_toArray, List.set_cons_zero, List.set_cons_succ])
  ((with_reducible apply E_no); rfl; simp only [Act.put, List.setIfInBounds_toArray, List.set_cons_zero, List.set_cons_succ])
  ((with_reducible apply E_no); rfl; simp only [Act.put, List.setIfInBounds_toArray, List.set_cons_zero, List.set_cons_succ])
  ((with_reducible apply E_no); rfl; simp only [Act.put, List.setIfInBounds_toArray, List.set_cons_zero, List.set_cons_succ])
  ((with_reducible apply E_no); rfl; simp only [Act.put, List.setIfInBounds_toArray, List.set_cons_zero, List.set_cons_succ])
  ((with_reducible apply E_no); rfl; simp only [Act.put, List.setIfInBounds_toArray, List.set_cons_zero, List.set_cons_succ])
  ((with_reducible apply E_no); rfl; simp only [Act.put, List.setIfInBounds_toArray, List.set_cons_zero, List.set_cons_succ])
  ((with_reducible apply E_no); rfl; simp only [Act.put, List.setIfInBounds_toArray, List.set_cons_zero, List.set_cons_succ])
  ((with_reducible apply E_run); rfl; rfl; (intro w M; go_simp; (try go_ints); (try simp only [↓IntWalk.iteOmega]); (try with_reducible rfl)); simp only [Act.put, List.setIfInBounds_toArray, List.set_cons_zero, List.set_cons_succ])
  ((with_reducible apply E_run); rfl; rfl; (intro w M; go_simp; (try go_ints); (try simp only [↓IntWalk.iteOmega]); (try with_reducible rfl)); simp only [Act.put, List.setIfInBounds_toArray, List.set_cons_zero, List.set_cons_succ])
  refine E_nil ?_
  intro w9 K M
  clear K
  refine S_done ?_
  go_wp2_with fail
  refine (HC.out _ M.kept).mono ?_
  rintro e w2 ⟨r, rfl, xHR, K⟩
  have HR := hid xHR
  replace M := M.call K
  clear K xHR
  go_wp2_with ((with_reducible apply W_loadCell); rfl; exact M.kept.row hr (by simp); exact h4; exact Salg.underlying89; rfl; simp only [Act.put, List.setIfInBounds_toArray, List.set_cons_zero, List.set_cons_succ])
  refine (cmp_num r gv C G _ HR.out (HG.out.kept M.kept)).mono ?_
  rintro e w3 ⟨rfl, K⟩
  replace HR := hid (HR.out.kept K)
  replace M := M.call K
  clear K
  have hz : decide ((0 : Int) < cmpI C G) = false := by
    unfold cmpI
    split
    · rfl
    · rw [if_neg (by omega)]; rfl
  go_wp2_with fail
  refine S_region (by kernel_rfl) ?_
  replace HR := hid (HR.out.kept (Kept.refl [] _).drew)
  refine E_stage 0 12 [0, 1, 2, 3, 4, 5, 6, 7, 8, 9, 10, 11] (by kernel_rfl) M.drew ?_
  clear M
  simp only [List.filterMap_cons, List.filterMap_nil, List.getElem?_cons_zero, List.getElem?_cons_succ]
  ((with_reducible apply E_run); rfl; rfl; (intro w M; go_simp; (try go_ints); (try simp only [↓IntWalk.iteOmega]); (try with_reducible rfl)); simp only [Act.put, List.setIfInBounds_toArray, List.set_cons_zero, List.set_cons_succ])
  ((with_reducible apply E_run); rfl; rfl; (intro w M; go_simp; (try go_ints); (try simp only [↓IntWalk.iteOmega]); (try with_reducible rfl)); simp only [Act.put, List.setIfInBounds_toArray, List.set_cons_zero, List.set_cons_succ])
  ((with_reducible apply E_run); rfl; rfl; (intro w M; go_simp; (try go_ints); (try simp only [↓IntWalk.iteOmega]); (try with_reducible rfl)); simp only [Act.put, List.setIfInBounds_toArray, List.set_cons_zero, List.set_cons_succ])
  ((with_reducible apply E_no); rfl; simp only [Act.put, List.setIfInBounds_toArray, List.set_cons_zero, List.set_cons_succ])
  ((with_reducible apply E_no); rfl; simp only [Act.put, List.setIfInBounds_toArray, List.set_cons_zero, List.set_cons_succ])
  ((with_reducible apply E_no); rfl; simp only [Act.put, List.setIfInBounds_toArray, List.set_cons_zero, List.set_cons_succ])
  ((with_reducible apply E_no); rfl; simp only [Act.put, List.setIfInBounds_toArray, List.set_cons_zero, List.set_cons_succ])
  ((with_reducible apply E_no); rfl; simp only [Act.put, List.setIfInBounds_toArray, List.set_cons_zero, List.set_cons_succ])
  ((with_reducible apply E_no); rfl; simp only [Act.put, List.setIfInBounds_toArray, List.set_cons_zero, List.set_cons_succ])
  ((with_reducible apply E_no); rfl; simp only [Act.put, List.setIfInBounds_toArray, List.set_cons_zero, List.set_cons_succ])
  ((with_reducible apply E_run); rfl; rfl; (intro w M; go_simp; (try go_ints); (try simp only [↓IntWalk.iteOmega]); (try with_reducible rfl)); simp only [Act.put, List.setIfInBounds_toArray, List.set_cons_zero, List.set_cons_succ])
  ((with_reducible apply E_run); rfl; rfl; (intro w M; go_simp; (try go_ints); (try simp only [↓IntWalk.iteOmega]); (try with_reducible rfl)); simp only [Act.put, List.setIfInBounds_toArray, List.set_cons_zero, List.set_cons_succ])
  refine E_nil ?_
  intro w9 K M
  replace HR := hid (HR.out.kept K)
  clear K
  refine S_done ?_
  go_wp2_with fail
  refine S_region (by kernel_rfl) ?_
  replace HR := hid (HR.out.kept (Kept.refl [] _).drew)
  refine E_stage 0 13 [0, 1, 2, 3, 4, 5, 6, 7, 8, 9, 10, 11, 12] (by kernel_rfl) M.drew ?_
  clear M
  simp only [List.filterMap_cons, List.filterMap_nil, List.getElem?_cons_zero, List.getElem?_cons_succ]
  ((with_reducible apply E_run); rfl; rfl; (intro w M; go_simp; (try go_ints); (try simp only [↓IntWalk.iteOmega]); (try with_reducible rfl)); simp only [Act.put, List.setIfInBounds_toArray, List.set_cons_zero, List.set_cons_succ])
  ((with_reducible apply E_run); rfl; rfl; (intro w M; go_simp; (try go_ints); (try simp only [↓IntWalk.iteOmega]); (try with_reducible rfl)); simp only [Act.put, List.setIfInBounds_toArray, List.set_cons_zero, List.set_cons_succ])
  ((with_reducible apply E_run); rfl; rfl; (intro w M; go_simp; (try go_ints); (try simp only [↓IntWalk.iteOmega]); (try with_reducible rfl)); simp only [Act.put, List.setIfInBounds_toArray, List.set_cons_zero, List.set_cons_succ])
  ((with_reducible apply E_no); rfl; simp only [Act.put, List.setIfInBounds_toArray, List.set_cons_zero, List.set_cons_succ])
  ((with_reducible apply E_no); rfl; simp only [Act.put, List.setIfInBounds_toArray, List.set_cons_zero, List.set_cons_succ])
  ((with_reducible apply E_no); rfl; simp only [Act.put, List.setIfInBounds_toArray, List.set_cons_zero, List.set_cons_succ])
  ((with_reducible apply E_no); rfl; simp only [Act.put, List.setIfInBounds_toArray, List.set_cons_zero, List.set_cons_succ])
  ((with_reducible apply E_no); rfl; simp only [Act.put, List.setIfInBounds_toArray, List.set_cons_zero, List.set_cons_succ])
  ((with_reducible apply E_no); rfl; simp only [Act.put, List.setIfInBounds_toArray, List.set_cons_zero, List.set_cons_succ])
  ((with_reducible apply E_no); rfl; simp only [Act.put, List.setIfInBounds_toArray, List.set_cons_zero, List.set_cons_succ])
  ((with_reducible apply E_no); rfl; simp only [Act.put, List.setIfInBounds_toArray, List.set_cons_zero, List.set_cons_succ])
  ((with_reducible apply E_run); rfl; rfl; (intro w M; go_simp; (try go_ints); (try simp only [↓IntWalk.iteOmega]); (try with_reducible rfl)); simp only [Act.put, List.setIfInBounds_toArray, List.set_cons_zero, List.set_cons_succ])
  ((with_reducible apply E_run); rfl; rfl; (intro w M; go_simp; (try go_ints); (try simp only [↓IntWalk.iteOmega]); (try with_reducible rfl)); simp only [Act.put, List.setIfInBounds_toArray, List.set_cons_zero, List.set_cons_succ])
  refine E_nil ?_
  intro w9 K M
  replace HR := hid (HR.out.kept K)
  clear K
  refine S_done ?_
  go_wp2_with fail
  refine S_region (by kernel_rfl) ?_
  replace HR := hid (HR.out.kept (Kept.refl [] _).drew)
  refine E_stage 0 19 [0, 1, 2, 3, 4, 5, 6, 7, 8, 9, 10, 11, 12, 13, 14, 15, 16, 17, 18] (by kernel_rfl) M.drew ?_
  clear M
  simp only [List.filterMap_cons, List.filterMap_nil, List.getElem?_cons_zero, List.getElem?_cons_succ]
  ((with_reducible apply E_run); rfl; rfl; (intro w M; go_simp; (try go_ints); (try simp only [↓IntWalk.iteOmega]); (try with_reducible rfl)); simp only [Act.put, List.setIfInBounds_toArray, List.set_cons_zero, List.set_cons_succ])
  ((with_reducible apply E_run); rfl; rfl; (intro w M; go_simp; (try go_ints); (try simp only [↓IntWalk.iteOmega]); (try with_reducible rfl)); simp only [Act.put, List.setIfInBounds_toArray, List.set_cons_zero, List.set_cons_succ])
  ((with_reducible apply E_run); rfl; rfl; (intro w M; go_simp; (try go_ints); (try simp only [↓IntWalk.iteOmega]); (try with_reducible rfl)); simp only [Act.put, List.setIfInBounds_toArray, List.set_cons_zero, List.set_cons_succ])
  ((with_reducible apply E_no); rfl; simp only [Act.put, List.setIfInBounds_toArray, List.set_cons_zero, List.set_cons_succ])
  ((with_reducible apply E_no); rfl; simp only [Act.put, List.setIfInBounds_toArray, List.set_cons_zero, List.set_cons_succ])
  ((with_reducible apply E_no); rfl; simp only [Act.put, List.setIfInBounds_toArray, List.set_cons_zero, List.set_cons_succ])
  ((with_reducible apply E_no); rfl; simp only [Act.put, List.setIfInBounds_toArray, List.set_cons_zero, List.set_cons_succ])
  ((with_reducible apply E_run); rfl; rfl; (intro w M; go_simp; (try go_ints); (try simp only [↓IntWalk.iteOmega]); (try with_reducible rfl)); simp only [Act.put, List.setIfInBounds_toArray, List.set_cons_zero, List.set_cons_succ])
  ((with_reducible apply E_run); rfl; rfl; (intro w M; go_simp; (try go_ints); (try simp only [↓IntWalk.iteOmega]); (try with_reducible rfl)); simp only [Act.put, List.setIfInBounds_toArray, List.set_cons_zero, List.set_cons_succ])
  ((with_reducible apply E_no); rfl; simp only [Act.put, List.setIfInBounds_toArray, List.set_cons_zero, List.set_cons_succ])
  ((with_reducible apply E_no); rfl; simp only [Act.put, List.setIfInBounds_toArray, List.set_cons_zero, List.set_cons_succ])
  ((with_reducible apply E_no); rfl; simp only [Act.put, List.setIfInBounds_toArray, List.set_cons_zero, List.set_cons_succ])
  ((with_reducible apply E_no); rfl; simp only [Act.put, List.setIfInBounds_toArray, List.set_cons_zero, List.set_cons_succ])
  ((with_reducible apply E_no); rfl; simp only [Act.put, List.setIfInBounds_toArray, List.set_cons_zero, List.set_cons_succ])
  ((with_reducible apply E_no); rfl; simp only [Act.put, List.setIfInBounds_toArray, List.set_cons_zero, List.set_cons_succ])
  ((with_reducible apply E_no); rfl; simp only [Act.put, List.setIfInBounds_toArray, List.set_cons_zero, List.set_cons_succ])
  ((with_reducible apply E_no); rfl; simp only [Act.put, List.setIfInBounds_toArray, List.set_cons_zero, List.set_cons_succ])
  ((with_reducible apply E_run); rfl; rfl; (intro w M; go_simp; (try go_ints); (try simp only [↓IntWalk.iteOmega]); (try with_reducible rfl)); simp only [Act.put, List.setIfInBounds_toArray, List.set_cons_zero, List.set_cons_succ])
  ((with_reducible apply E_run); rfl; rfl; (intro w M; go_simp; (try go_ints); (try simp only [↓IntWalk.iteOmega]); (try with_reducible rfl)); simp only [Act.put, List.setIfInBounds_toArray, List.set_cons_zero, List.set_cons_succ])
  refine E_nil ?_
  intro w9 K M
  replace HR := hid (HR.out.kept K)
  clear K
  refine S_done ?_
  go_wp2_with fail
  go_ret2
  exact ⟨_, rfl, HR.out, M.kept⟩

set_option maxHeartbeats 4000000 in
set_option maxRecDepth 100000 in
theorem refusal_delegatecall (st : Value) (fb q m G C : Nat) (fs0 : Array Value) (cv mc : Value) (ns : List Nat) (w : World) (hF : FrameQ w fb q fs0 m G ns mc) (hf : FrC fs0 q cv) (hn : 6 ≤ ns.length) (hn2 : ns.length ≤ 40) (hCG : C ≤ G)
    (hC : ∀ w', Kept [] w w' → Calls Salg.prog 183 #[st, .pointer (some ⟨fb, q, none⟩), .int .u8 244] w' fun e w'' => ∃ r, e = .returned r ∧ NumV w'' r C ∧ Kept [] w' w'') :
    Calls Salg.prog 111 #[st, .pointer (some ⟨fb, q, none⟩), .int .u8 244] w fun e w' => ∃ r, e = .returned (.tuple #[.int .u8 0, r]) ∧ NumV w' r C ∧ Kept [] w w' := by
  have M := Mem.start w []
  obtain ⟨fs, pv, gv, sv, xs, hr, hsz, hfs, h3, hpv, h4, hgv, h8, hsv, hxs, hmv⟩ := hF
  have hxl := hxs.1
  obtain ⟨p, n, cp, rfl⟩ := rowV_slice hsv
  obtain rfl : n = xs.length := by
    rcases hsv with ⟨e, e2⟩ | ⟨g, cap, cur, e, _⟩
    · cases e; subst e2; rfl
    · cases e; rfl
  have h2 := (hfs (q + 2) (by omega) (by omega) (by omega) (by omega)).trans hf.f2
  have HG := hid hgv
  have HC := hid hC
  have d1 : decide ((xs.length : Int) < (6 : Int)) = false := by simp <;> omega
  have d2 : decide ((64 : Int) < (xs.length : Int) - (6 : Int) + (1 : Int)) = false := by simp; omega
  have d3 : decide ((64 : Int) < (xs.length : Int) - (6 : Int)) = false := by simp; omega
  have d4 : decide ((64 : Int) < (xs.length : Int)) = false := by simp; omega
  have d5 : decide ((xs.length : Int) < 0) = false := by simp
  clear hgv hC hfs hsv hxs hpv hf hsz hmv h3
  go_enter Salg.func111, Salg.ntmps111
  go_wp2_with fail
  refine (arity_delegatecall _).mono ?_
  rintro e w1 ⟨rfl, hw⟩
  replace hw := hw.symm
  subst hw
  go_wp2_with (first
    | ((with_reducible apply W_loadCell); rfl; exact M.kept.row hr (by simp); exact h8; exact Salg.underlying140; rfl; simp only [Act.put, List.setIfInBounds_toArray, List.set_cons_zero, List.set_cons_succ])
    | ((with_reducible apply W_loadCell); rfl; exact M.kept.row hr (by simp); exact h2; exact Salg.underlying4; rfl; simp only [Act.put, List.setIfInBounds_toArray, List.set_cons_zero, List.set_cons_succ]))
  refine S_region (by kernel_rfl) ?_
  refine E_stage 0 19 [0, 1, 2, 3, 5, 8, 9, 10, 11, 12, 13, 4, 6, 7, 14, 15, 16, 17, 18] (by kernel_rfl) M.drew ?_
  clear M
  simp only [List.filterMap_cons, List.filterMap_nil, List.getElem?_cons_zero, List.getElem?_cons_succ]
  ((with_reducible apply E_run); rfl; rfl; (intro w M; go_simp; (try go_ints); (try simp only [↓IntWalk.iteOmega]); (try with_reducible rfl)); simp only [Act.put, List.setIfInBounds_toArray, List.set_cons_zero, List.set_cons_succ])
  ((with_reducible apply E_run); rfl; rfl; (intro w M; go_simp; (try go_ints); (try simp only [↓IntWalk.iteOmega]); (try with_reducible rfl)); simp only [Act.put, List.setIfInBounds_toArray, List.set_cons_zero, List.set_cons_succ])
  ((with_reducible apply E_run); rfl; rfl; (intro w M; go_simp; (try go_ints); (try simp only [↓IntWalk.iteOmega]); (try with_reducible rfl)); simp only [Act.put, List.setIfInBounds_toArray, List.set_cons_zero, List.set_cons_succ])
  ((with_reducible apply E_no); rfl; simp only [Act.put, List.setIfInBounds_toArray, List.set_cons_zero, List.set_cons_succ])
  ((with_reducible apply E_no); rfl; simp only [Act.put, List.setIfInBounds_toArray, List.set_cons_zero, List.set_cons_succ])
  ((with_reducible apply E_no); rfl; simp only [Act.put, List.setIfInBounds_toArray, List.set_cons_zero, List.set_cons_succ])
  ((with_reducible apply E_no); rfl; simp only [Act.put, List.setIfInBounds_toArray, List.set_cons_zero, List.set_cons_succ])
  ((with_reducible apply E_no); rfl; simp only [Act.put, List.setIfInBounds_toArray, List.set_cons_zero, List.set_cons_succ])
  ((with_reducible apply E_no); rfl; simp only [Act.put, List.setIfInBounds_toArray, List.set_cons_zero, List.set_cons_succ])
  ((with_reducible apply E_no); rfl; simp only [Act.put, List.setIfInBounds_toArray, List.set_cons_zero, List.set_cons_succ])
  ((with_reducible apply E_no); rfl; simp only [Act.put, List.setIfInBounds_toArray, List.set_cons_zero, List.set_cons_succ])
  ((with_reducible apply E_no); rfl; simp only [Act.put, List.setIfInBounds_toArray, List.set_cons_zero, List.set_cons_succ])
  ((with_reducible apply E_no); rfl; simp only [Act.put, List.setIfInBounds_toArray, List.set_cons_zero, List.set_cons_succ])
  ((with_reducible apply E_no); rfl; simp only [Act.put, List.setIfInBounds_toArray, List.set_cons_zero, List.set_cons_succ])
  ((with_reducible apply E_no); rfl; simp only [Act.put, List.setIfInBounds_toArray, List.set_cons_zero, List.set_cons_succ])
  ((with_reducible apply E_no); rfl; simp only [Act.put, List.setIfInBounds_toArray, List.set_cons_zero, List.set_cons_succ])
  ((with_reducible apply E_no); rfl; simp only [Act.put, List.setIfInBounds_toArray, List.set_cons_zero, List.set_cons_succ])
  ((with_reducible apply E_run); rfl; rfl; (intro w M; go_simp; (try go_ints); (try simp only [↓IntWalk.iteOmega]); (try with_reducible rfl)); simp only [Act.put, List.setIfInBounds_toArray, List.set_cons_zero, List.set_cons_succ])
  ((with_reducible apply E_run); rfl; rfl; (intro w M; go_simp; (try go_ints); (try simp only [↓IntWalk.iteOmega]); (try with_reducible rfl)); simp only [Act.put, List.setIfInBounds_toArray, List.set_cons_zero, List.set_cons_succ])
  refine E_nil ?_
  intro w9 K M
  clear K
  refine S_done ?_
  go_wp2_with fail
  refine (HC.out _ M.kept).mono ?_
  rintro e w2 ⟨r, rfl, xHR, K⟩
  have HR := hid xHR
  replace M := M.call K
  clear K xHR
  go_wp2_with ((with_reducible apply W_loadCell); rfl; exact M.kept.row hr (by simp); exact h4; exact Salg.underlying89; rfl; simp only [Act.put, List.setIfInBounds_toArray, List.set_cons_zero, List.set_cons_succ])
  refine (cmp_num r gv C G _ HR.out (HG.out.kept M.kept)).mono ?_
  rintro e w3 ⟨rfl, K⟩
  replace HR := hid (HR.out.kept K)
  replace M := M.call K
  clear K
  have hz : decide ((0 : Int) < cmpI C G) = false := by
    unfold cmpI
    split
    · rfl
    · rw [if_neg (by omega)]; rfl
  go_wp2_with fail
  refine S_region (by kernel_rfl) ?_
  replace HR := hid (HR.out.kept (Kept.refl [] _).drew)
  refine E_stage 0 12 [0, 1, 2, 3, 4, 5, 6, 7, 8, 9, 10, 11] (by kernel_rfl) M.drew ?_
  clear M
  simp only [List.filterMap_cons, List.filterMap_nil, List.getElem?_cons_zero, List.getElem?_cons_succ]
  ((with_reducible apply E_run); rfl; rfl; (intro w M; go_simp; (try go_ints); (try simp only [↓IntWalk.iteOmega]); (try with_reducible rfl)); simp only [Act.put, List.setIfInBounds_toArray, List.set_cons_zero, List.set_cons_succ])
  ((with_reducible apply E_run); rfl; rfl; (intro w M; go_simp; (try go_ints); (try simp only [↓IntWalk.iteOmega]); (try with_reducible rfl)); simp only [Act.put, List.setIfInBounds_toArray, List.set_cons_zero, List.set_cons_succ])
  ((with_reducible apply E_run); rfl; rfl; (intro w M; go_simp; (try go_ints); (try simp only [↓IntWalk.iteOmega]); (try with_reducible rfl)); simp only [Act.put, List.setIfInBounds_toArray, List.set_cons_zero, List.set_cons_succ])
  ((with_reducible apply E_no); rfl; simp only [Act.put, List.setIfInBounds_toArray, List.set_cons_zero, List.set_cons_succ])
  ((with_reducible apply E_no); rfl; simp only [Act.put, List.setIfInBounds_toArray, List.set_cons_zero, List.set_cons_succ])
  ((with_reducible apply E_no); rfl; simp only [Act.put, List.setIfInBounds_toArray, List.set_cons_zero, List.set_cons_succ])
  ((with_reducible apply E_no); rfl; simp only [Act.put, List.setIfInBounds_toArray, List.set_cons_zero, List.set_cons_succ])
  ((with_reducible apply E_no); rfl; simp only [Act.put, List.setIfInBounds_toArray, List.set_cons_zero, List.set_cons_succ])
  ((with_reducible apply E_no); rfl; simp only [Act.put, List.setIfInBounds_toArray, List.set_cons_zero, List.set_cons_succ])
  ((with_reducible apply E_no); rfl; simp only [Act.put, List.setIfInBounds_toArray, List.set_cons_zero, List.set_cons_succ])
  ((with_reducible apply E_run); rfl; rfl; (intro w M; go_simp; (try go_ints); (try simp only [↓IntWalk.iteOmega]); (try with_reducible rfl)); simp only [Act.put, List.setIfInBounds_toArray, List.set_cons_zero, List.set_cons_succ])
  ((with_reducible apply E_run); rfl; rfl; (intro w M; go_simp; (try go_ints); (try simp only [↓IntWalk.iteOmega]); (try with_reducible rfl)); simp only [Act.put, List.setIfInBounds_toArray, List.set_cons_zero, List.set_cons_succ])
  refine E_nil ?_
  intro w9 K M
  replace HR := hid (HR.out.kept K)
  clear K
  refine S_done ?_
  go_wp2_with fail
  refine S_region (by kernel_rfl) ?_
  replace HR := hid (HR.out.kept (Kept.refl [] _).drew)
  refine E_stage 0 13 [0, 1, 2, 3, 4, 5, 6, 7, 8, 9, 10, 11, 12] (by kernel_rfl) M.drew ?_
  clear M
  simp only [List.filterMap_cons, List.filterMap_nil, List.getElem?_cons_zero, List.getElem?_cons_succ]
  ((with_reducible apply E_run); rfl; rfl; (intro w M; go_simp; (try go_ints); (try simp only [↓IntWalk.iteOmega]); (try with_reducible rfl)); simp only [Act.put, List.setIfInBounds_toArray, List.set_cons_zero, List.set_cons_succ])
  ((with_reducible apply E_run); rfl; rfl; (intro w M; go_simp; (try go_ints); (try simp only [↓IntWalk.iteOmega]); (try with_reducible rfl)); simp only [Act.put, List.setIfInBounds_toArray, List.set_cons_zero, List.set_cons_succ])
  ((with_reducible apply E_run); rfl; rfl; (intro w M; go_simp; (try go_ints); (try simp only [↓IntWalk.iteOmega]); (try with_reducible rfl)); simp only [Act.put, List.setIfInBounds_toArray, List.set_cons_zero, List.set_cons_succ])
  ((with_reducible apply E_no); rfl; simp only [Act.put, List.setIfInBounds_toArray, List.set_cons_zero, List.set_cons_succ])
  ((with_reducible apply E_no); rfl; simp only [Act.put, List.setIfInBounds_toArray, List.set_cons_zero, List.set_cons_succ])
  ((with_reducible apply E_no); rfl; simp only [Act.put, List.setIfInBounds_toArray, List.set_cons_zero, List.set_cons_succ])
  ((with_reducible apply E_no); rfl; simp only [Act.put, List.setIfInBounds_toArray, List.set_cons_zero, List.set_cons_succ])
  ((with_reducible apply E_no); rfl; simp only [Act.put, List.setIfInBounds_toArray, List.set_cons_zero, List.set_cons_succ])
  ((with_reducible apply E_no); rfl; simp only [Act.put, List.setIfInBounds_toArray, List.set_cons_zero, List.set_cons_succ])
  ((with_reducible apply E_no); rfl; simp only [Act.put, List.setIfInBounds_toArray, List.set_cons_zero, List.set_cons_succ])
  ((with_reducible apply E_no); rfl; simp only [Act.put, List.setIfInBounds_toArray, List.set_cons_zero, List.set_cons_succ])
  ((with_reducible apply E_run); rfl; rfl; (intro w M; go_simp; (try go_ints); (try simp only [↓IntWalk.iteOmega]); (try with_reducible rfl)); simp only [Act.put, List.setIfInBounds_toArray, List.set_cons_zero, List.set_cons_succ])
  ((with_reducible apply E_run); rfl; rfl; (intro w M; go_simp; (try go_ints); (try simp only [↓IntWalk.iteOmega]); (try with_reducible rfl)); simp only [Act.put, List.setIfInBounds_toArray, List.set_cons_zero, List.set_cons_succ])
  refine E_nil ?_
  intro w9 K M
  replace HR := hid (HR.out.kept K)
  clear K
  refine S_done ?_
  go_wp2_with fail
  refine S_region (by kernel_rfl) ?_
  replace HR := hid (HR.out.kept (Kept.refl [] _).drew)
  refine E_stage 0 19 [0, 1, 2, 3, 4, 5, 6, 7, 8, 9, 10, 11, 12, 13, 14, 15, 16, 17, 18] (by kernel_rfl) M.drew ?_
  clear M
  simp only [List.filterMap_cons, List.filterMap_nil, List.getElem?_cons_zero, List.getElem?_cons_succ]
  ((with_reducible apply E_run); rfl; rfl; (intro w M; go_simp; (try go_ints); (try simp only [↓IntWalk.iteOmega]); (try with_reducible rfl)); simp only [Act.put, List.setIfInBounds_toArray, List.set_cons_zero, List.set_cons_succ])
  ((with_reducible apply E_run); rfl; rfl; (intro w M; go_simp; (try go_ints); (try simp only [↓IntWalk.iteOmega]); (try with_reducible rfl)); simp only [Act.put, List.setIfInBounds_toArray, List.set_cons_zero, List.set_cons_succ])
  ((with_reducible apply E_run); rfl; rfl; (intro w M; go_simp; (try go_ints); (try simp only [↓IntWalk.iteOmega]); (try with_reducible rfl)); simp only [Act.put, List.setIfInBounds_toArray, List.set_cons_zero, List.set_cons_succ])
  ((with_reducible apply E_no); rfl; simp only [Act.put, List.setIfInBounds_toArray, List.set_cons_zero, List.set_cons_succ])
  ((with_reducible apply E_no); rfl; simp only [Act.put, List.setIfInBounds_toArray, List.set_cons_zero, List.set_cons_succ])
  ((with_reducible apply E_no); rfl; simp only [Act.put, List.setIfInBounds_toArray, List.set_cons_zero, List.set_cons_succ])
  ((with_reducible apply E_no); rfl; simp only [Act.put, List.setIfInBounds_toArray, List.set_cons_zero, List.set_cons_succ])
  ((with_reducible apply E_run); rfl; rfl; (intro w M; go_simp; (try go_ints); (try simp only [↓IntWalk.iteOmega]); (try with_reducible rfl)); simp only [Act.put, List.setIfInBounds_toArray, List.set_cons_zero, List.set_cons_succ])
  ((with_reducible apply E_run); rfl; rfl; (intro w M; go_simp; (try go_ints); (try simp only [↓IntWalk.iteOmega]); (try with_reducible rfl)); simp only [Act.put, List.setIfInBounds_toArray, List.set_cons_zero, List.set_cons_succ])
  ((with_reducible apply E_no); rfl; simp only [Act.put, List.setIfInBounds_toArray, List.set_cons_zero, List.set_cons_succ])
  ((with_reducible apply E_no); rfl; simp only [Act.put, List.setIfInBounds_toArray, List.set_cons_zero, List.set_cons_succ])
  ((with_reducible apply E_no); rfl; simp only [Act.put, List.setIfInBounds_toArray, List.set_cons_zero, List.set_cons_succ])
  ((with_reducible apply E_no); rfl; simp only [Act.put, List.setIfInBounds_toArray, List.set_cons_zero, List.set_cons_succ])
  ((with_reducible apply E_no); rfl; simp only [Act.put, List.setIfInBounds_toArray, List.set_cons_zero, List.set_cons_succ])
  ((with_reducible apply E_no); rfl; simp only [Act.put, List.setIfInBounds_toArray, List.set_cons_zero, List.set_cons_succ])
  ((with_reducible apply E_no); rfl; simp only [Act.put, List.setIfInBounds_toArray, List.set_cons_zero, List.set_cons_succ])
  ((with_reducible apply E_no); rfl; simp only [Act.put, List.setIfInBounds_toArray, List.set_cons_zero, List.set_cons_succ])
  ((with_reducible apply E_run); rfl; rfl; (intro w M; go_simp; (try go_ints); (try simp only [↓IntWalk.iteOmega]); (try with_reducible rfl)); simp only [Act.put, List.setIfInBounds_toArray, List.set_cons_zero, List.set_cons_succ])
  ((with_reducible apply E_run); rfl; rfl; (intro w M; go_simp; (try go_ints); (try simp only [↓IntWalk.iteOmega]); (try with_reducible rfl)); simp only [Act.put, List.setIfInBounds_toArray, List.set_cons_zero, List.set_cons_succ])
  refine E_nil ?_
  intro w9 K M
  replace HR := hid (HR.out.kept K)
  clear K
  refine S_done ?_
  go_wp2_with fail
  go_ret2
  exact ⟨_, rfl, HR.out, M.kept⟩

set_option maxHeartbeats 4000000 in
set_option maxRecDepth 100000 in
theorem refusal_stop (st : Value) (fb q m G C : Nat) (fs0 : Array Value) (cv mc : Value) (ns : List Nat) (w : World) (hF : FrameQ w fb q fs0 m G ns mc) (hf : FrC fs0 q cv) (hn : 0 ≤ ns.length) (hn2 : ns.length ≤ 40) (hCG : C ≤ G)
    (hC : ∀ w', Kept [] w w' → Calls Salg.prog 183 #[st, .pointer (some ⟨fb, q, none⟩), .int .u8 0] w' fun e w'' => ∃ r, e = .returned r ∧ NumV w'' r C ∧ Kept [] w' w'') :
    Calls Salg.prog 111 #[st, .pointer (some ⟨fb, q, none⟩), .int .u8 0] w fun e w' => ∃ r, e = .returned (.tuple #[.int .u8 0, r]) ∧ NumV w' r C ∧ Kept [] w w' := by
  have M := Mem.start w []
  obtain ⟨fs, pv, gv, sv, xs, hr, hsz, hfs, h3, hpv, h4, hgv, h8, hsv, hxs, hmv⟩ := hF
  have hxl := hxs.1
  obtain ⟨p, n, cp, rfl⟩ := rowV_slice hsv
  obtain rfl : n = xs.length := by
    rcases hsv with ⟨e, e2⟩ | ⟨g, cap, cur, e, _⟩
    · cases e; subst e2; rfl
    · cases e; rfl
  have h2 := (hfs (q + 2) (by omega) (by omega) (by omega) (by omega)).trans hf.f2
  have HG := hid hgv
  have HC := hid hC
  have d1 : decide ((xs.length : Int) < (0 : Int)) = false := by simp <;> omega
  have d2 : decide ((64 : Int) < (xs.length : Int) - (0 : Int) + (0 : Int)) = false := by simp; omega
  have d3 : decide ((64 : Int) < (xs.length : Int) - (0 : Int)) = false := by simp; omega
  have d4 : decide ((64 : Int) < (xs.length : Int)) = false := by simp; omega
  have d5 : decide ((xs.length : Int) < 0) = false := by simp
  clear hgv hC hfs hsv hxs hpv hf hsz hmv h3
  go_enter Salg.func111, Salg.ntmps111
  go_wp2_with fail
  refine (arity_stop _).mono ?_
  rintro e w1 ⟨rfl, hw⟩
  replace hw := hw.symm
  subst hw
  go_wp2_with (first
    | ((with_reducible apply W_loadCell); rfl; exact M.kept.row hr (by simp); exact h8; exact Salg.underlying140; rfl; simp only [Act.put, List.setIfInBounds_toArray, List.set_cons_zero, List.set_cons_succ])
    | ((with_reducible apply W_loadCell); rfl; exact M.kept.row hr (by simp); exact h2; exact Salg.underlying4; rfl; simp only [Act.put, List.setIfInBounds_toArray, List.set_cons_zero, List.set_cons_succ]))
  refine S_region (by kernel_rfl) ?_
  refine E_stage 0 19 [0, 1, 2, 3, 5, 8, 9, 10, 11, 12, 13, 4, 6, 7, 14, 15, 16, 17, 18] (by kernel_rfl) M.drew ?_
  clear M
  simp only [List.filterMap_cons, List.filterMap_nil, List.getElem?_cons_zero, List.getElem?_cons_succ]
  ((with_reducible apply E_run); rfl; rfl; (intro w M; go_simp; (try go_ints); (try simp only [↓IntWalk.iteOmega]); (try with_reducible rfl)); simp only [Act.put, List.setIfInBounds_toArray, List.set_cons_zero, List.set_cons_succ])
  ((with_reducible apply E_run); rfl; rfl; (intro w M; go_simp; (try go_ints); (try simp only [↓IntWalk.iteOmega]); (try with_reducible rfl)); simp only [Act.put, List.setIfInBounds_toArray, List.set_cons_zero, List.set_cons_succ])
  ((with_reducible apply E_run); rfl; rfl; (intro w M; go_simp; (try go_ints); (try simp only [↓IntWalk.iteOmega]); (try with_reducible rfl)); simp only [Act.put, List.setIfInBounds_toArray, List.set_cons_zero, List.set_cons_succ])
  ((with_reducible apply E_no); rfl; simp only [Act.put, List.setIfInBounds_toArray, List.set_cons_zero, List.set_cons_succ])
  ((with_reducible apply E_no); rfl; simp only [Act.put, List.setIfInBounds_toArray, List.set_cons_zero, List.set_cons_succ])
  ((with_reducible apply E_no); rfl; simp only [Act.put, List.setIfInBounds_toArray, List.set_cons_zero, List.set_cons_succ])
  ((with_reducible apply E_no); rfl; simp only [Act.put, List.setIfInBounds_toArray, List.set_cons_zero, List.set_cons_succ])
  ((with_reducible apply E_no); rfl; simp only [Act.put, List.setIfInBounds_toArray, List.set_cons_zero, List.set_cons_succ])
  ((with_reducible apply E_no); rfl; simp only [Act.put, List.setIfInBounds_toArray, List.set_cons_zero, List.set_cons_succ])
  ((with_reducible apply E_no); rfl; simp only [Act.put, List.setIfInBounds_toArray, List.set_cons_zero, List.set_cons_succ])
  ((with_reducible apply E_no); rfl; simp only [Act.put, List.setIfInBounds_toArray, List.set_cons_zero, List.set_cons_succ])
  ((with_reducible apply E_no); rfl; simp only [Act.put, List.setIfInBounds_toArray, List.set_cons_zero, List.set_cons_succ])
  ((with_reducible apply E_no); rfl; simp only [Act.put, List.setIfInBounds_toArray, List.set_cons_zero, List.set_cons_succ])
  ((with_reducible apply E_no); rfl; simp only [Act.put, List.setIfInBounds_toArray, List.set_cons_zero, List.set_cons_succ])
  ((with_reducible apply E_no); rfl; simp only [Act.put, List.setIfInBounds_toArray, List.set_cons_zero, List.set_cons_succ])
  ((with_reducible apply E_no); rfl; simp only [Act.put, List.setIfInBounds_toArray, List.set_cons_zero, List.set_cons_succ])
  ((with_reducible apply E_no); rfl; simp only [Act.put, List.setIfInBounds_toArray, List.set_cons_zero, List.set_cons_succ])
  ((with_reducible apply E_run); rfl; rfl; (intro w M; go_simp; (try go_ints); (try simp only [↓IntWalk.iteOmega]); (try with_reducible rfl)); simp only [Act.put, List.setIfInBounds_toArray, List.set_cons_zero, List.set_cons_succ])
  ((with_reducible apply E_run); rfl; rfl; (intro w M; go_simp; (try go_ints); (try simp only [↓IntWalk.iteOmega]); (try with_reducible rfl)); simp only [Act.put, List.setIfInBounds_toArray, List.set_cons_zero, List.set_cons_succ])
  refine E_nil ?_
  intro w9 K M
  clear K
  refine S_done ?_
  go_wp2_with fail
  refine (HC.out _ M.kept).mono ?_
  rintro e w2 ⟨r, rfl, xHR, K⟩
  have HR := hid xHR
  replace M := M.call K
  clear K xHR
  go_wp2_with ((with_reducible apply W_loadCell); rfl; exact M.kept.row hr (by simp); exact h4; exact Salg.underlying89; rfl; simp only [Act.put, List.setIfInBounds_toArray, List.set_cons_zero, List.set_cons_succ])
  refine (cmp_num r gv C G _ HR.out (HG.out.kept M.kept)).mono ?_
  rintro e w3 ⟨rfl, K⟩
  replace HR := hid (HR.out.kept K)
  replace M := M.call K
  clear K
  have hz : decide ((0 : Int) < cmpI C G) = false := by
    unfold cmpI
    split
    · rfl
    · rw [if_neg (by omega)]; rfl
  go_wp2_with fail
  refine S_region (by kernel_rfl) ?_
  replace HR := hid (HR.out.kept (Kept.refl [] _).drew)
  refine E_stage 0 12 [0, 1, 2, 3, 4, 5, 6, 7, 8, 9, 10, 11] (by kernel_rfl) M.drew ?_
  clear M
  simp only [List.filterMap_cons, List.filterMap_nil, List.getElem?_cons_zero, List.getElem?_cons_succ]
  ((with_reducible apply E_run); rfl; rfl; (intro w M; go_simp; (try go_ints); (try simp only [↓IntWalk.iteOmega]); (try with_reducible rfl)); simp only [Act.put, List.setIfInBounds_toArray, List.set_cons_zero, List.set_cons_succ])
  ((with_reducible apply E_run); rfl; rfl; (intro w M; go_simp; (try go_ints); (try simp only [↓IntWalk.iteOmega]); (try with_reducible rfl)); simp only [Act.put, List.setIfInBounds_toArray, List.set_cons_zero, List.set_cons_succ])
  ((with_reducible apply E_run); rfl; rfl; (intro w M; go_simp; (try go_ints); (try simp only [↓IntWalk.iteOmega]); (try with_reducible rfl)); simp only [Act.put, List.setIfInBounds_toArray, List.set_cons_zero, List.set_cons_succ])
  ((with_reducible apply E_no); rfl; simp only [Act.put, List.setIfInBounds_toArray, List.set_cons_zero, List.set_cons_succ])
  ((with_reducible apply E_no); rfl; simp only [Act.put, List.setIfInBounds_toArray, List.set_cons_zero, List.set_cons_succ])
  ((with_reducible apply E_no); rfl; simp only [Act.put, List.setIfInBounds_toArray, List.set_cons_zero, List.set_cons_succ])
  ((with_reducible apply E_no); rfl; simp only [Act.put, List.setIfInBounds_toArray, List.set_cons_zero, List.set_cons_succ])
  ((with_reducible apply E_no); rfl; simp only [Act.put, List.setIfInBounds_toArray, List.set_cons_zero, List.set_cons_succ])
  ((with_reducible apply E_no); rfl; simp only [Act.put, List.setIfInBounds_toArray, List.set_cons_zero, List.set_cons_succ])
  ((with_reducible apply E_no); rfl; simp only [Act.put, List.setIfInBounds_toArray, List.set_cons_zero, List.set_cons_succ])
  ((with_reducible apply E_run); rfl; rfl; (intro w M; go_simp; (try go_ints); (try simp only [↓IntWalk.iteOmega]); (try with_reducible rfl)); simp only [Act.put, List.setIfInBounds_toArray, List.set_cons_zero, List.set_cons_succ])
  ((with_reducible apply E_run); rfl; rfl; (intro w M; go_simp; (try go_ints); (try simp only [↓IntWalk.iteOmega]); (try with_reducible rfl)); simp only [Act.put, List.setIfInBounds_toArray, List.set_cons_zero, List.set_cons_succ])
  refine E_nil ?_
  intro w9 K M
  replace HR := hid (HR.out.kept K)
  clear K
  refine S_done ?_
  go_wp2_with fail
  refine S_region (by kernel_rfl) ?_
  replace HR := hid (HR.out.kept (Kept.refl [] _).drew)
  refine E_stage 0 13 [0, 1, 2, 3, 4, 5, 6, 7, 8, 9, 10, 11, 12] (by kernel_rfl) M.drew ?_
  clear M
  simp only [List.filterMap_cons, List.filterMap_nil, List.getElem?_cons_zero, List.getElem?_cons_succ]
  ((with_reducible apply E_run); rfl; rfl; (intro w M; go_simp; (try go_ints); (try simp only [↓IntWalk.iteOmega]); (try with_reducible rfl)); simp only [Act.put, List.setIfInBounds_toArray, List.set_cons_zero, List.set_cons_succ])
  ((with_reducible apply E_run); rfl; rfl; (intro w M; go_simp; (try go_ints); (try simp only [↓IntWalk.iteOmega]); (try with_reducible rfl)); simp only [Act.put, List.setIfInBounds_toArray, List.set_cons_zero, List.set_cons_succ])
  ((with_reducible apply E_run); rfl; rfl; (intro w M; go_simp; (try go_ints); (try simp only [↓IntWalk.iteOmega]); (try with_reducible rfl)); simp only [Act.put, List.setIfInBounds_toArray, List.set_cons_zero, List.set_cons_succ])
  ((with_reducible apply E_no); rfl; simp only [Act.put, List.setIfInBounds_toArray, List.set_cons_zero, List.set_cons_succ])
  ((with_reducible apply E_no); rfl; simp only [Act.put, List.setIfInBounds_toArray, List.set_cons_zero, List.set_cons_succ])
  ((with_reducible apply E_no); rfl; simp only [Act.put, List.setIfInBounds_toArray, List.set_cons_zero, List.set_cons_succ])
  ((with_reducible apply E_no); rfl; simp only [Act.put, List.setIfInBounds_toArray, List.set_cons_zero, List.set_cons_succ])
  ((with_reducible apply E_no); rfl; simp only [Act.put, List.setIfInBounds_toArray, List.set_cons_zero, List.set_cons_succ])
  ((with_reducible apply E_no); rfl; simp only [Act.put, List.setIfInBounds_toArray, List.set_cons_zero, List.set_cons_succ])
  ((with_reducible apply E_no); rfl; simp only [Act.put, List.setIfInBounds_toArray, List.set_cons_zero, List.set_cons_succ])
  ((with_reducible apply E_no); rfl; simp only [Act.put, List.setIfInBounds_toArray, List.set_cons_zero, List.set_cons_succ])
  ((with_reducible apply E_run); rfl; rfl; (intro w M; go_simp; (try go_ints); (try simp only [↓IntWalk.iteOmega]); (try with_reducible rfl)); simp only [Act.put, List.setIfInBounds_toArray, List.set_cons_zero, List.set_cons_succ])
  ((with_reducible apply E_run); rfl; rfl; (intro w M; go_simp; (try go_ints); (try simp only [↓IntWalk.iteOmega]); (try with_reducible rfl)); simp only [Act.put, List.setIfInBounds_toArray, List.set_cons_zero, List.set_cons_succ])
  refine E_nil ?_
  intro w9 K M
  replace HR := hid (HR.out.kept K)
  clear K
  refine S_done ?_
  go_wp2_with fail
  refine S_region (by kernel_rfl) ?_
  replace HR := hid (HR.out.kept (Kept.refl [] _).drew)
  refine E_stage 0 19 [0, 1, 2, 3, 4, 5, 6, 7, 8, 9, 10, 11, 12, 13, 14, 15, 16, 17, 18] (by kernel_rfl) M.drew ?_
  clear M
  simp only [List.filterMap_cons, List.filterMap_nil, List.getElem?_cons_zero, List.getElem?_cons_succ]
  ((with_reducible apply E_run); rfl; rfl; (intro w M; go_simp; (try go_ints); (try simp only [↓IntWalk.iteOmega]); (try with_reducible rfl)); simp only [Act.put, List.setIfInBounds_toArray, List.set_cons_zero, List.set_cons_succ])
  ((with_reducible apply E_run); rfl; rfl; (intro w M; go_simp; (try go_ints); (try simp only [↓IntWalk.iteOmega]); (try with_reducible rfl)); simp only [Act.put, List.setIfInBounds_toArray, List.set_cons_zero, List.set_cons_succ])
  ((with_reducible apply E_run); rfl; rfl; (intro w M; go_simp; (try go_ints); (try simp only [↓IntWalk.iteOmega]); (try with_reducible rfl)); simp only [Act.put, List.setIfInBounds_toArray, List.set_cons_zero, List.set_cons_succ])
  ((with_reducible apply E_no); rfl; simp only [Act.put, List.setIfInBounds_toArray, List.set_cons_zero, List.set_cons_succ])
  ((with_reducible apply E_no); rfl; simp only [Act.put, List.setIfInBounds_toArray, List.set_cons_zero, List.set_cons_succ])
  ((with_reducible apply E_no); rfl; simp only [Act.put, List.setIfInBounds_toArray, List.set_cons_zero, List.set_cons_succ])
  ((with_reducible apply E_no); rfl; simp only [Act.put, List.setIfInBounds_toArray, List.set_cons_zero, List.set_cons_succ])
  ((with_reducible apply E_run); rfl; rfl; (intro w M; go_simp; (try go_ints); (try simp only [↓IntWalk.iteOmega]); (try with_reducible rfl)); simp only [Act.put, List.setIfInBounds_toArray, List.set_cons_zero, List.set_cons_succ])
  ((with_reducible apply E_run); rfl; rfl; (intro w M; go_simp; (try go_ints); (try simp only [↓IntWalk.iteOmega]); (try with_reducible rfl)); simp only [Act.put, List.setIfInBounds_toArray, List.set_cons_zero, List.set_cons_succ])
  ((with_reducible apply E_no); rfl; simp only [Act.put, List.setIfInBounds_toArray, List.set_cons_zero, List.set_cons_succ])
  ((with_reducible apply E_no); rfl; simp only [Act.put, List.setIfInBounds_toArray, List.set_cons_zero, List.set_cons_succ])
  ((with_reducible apply E_no); rfl; simp only [Act.put, List.setIfInBounds_toArray, List.set_cons_zero, List.set_cons_succ])
  ((with_reducible apply E_no); rfl; simp only [Act.put, List.setIfInBounds_toArray, List.set_cons_zero, List.set_cons_succ])
  ((with_reducible apply E_no); rfl; simp only [Act.put, List.setIfInBounds_toArray, List.set_cons_zero, List.set_cons_succ])
  ((with_reducible apply E_no); rfl; simp only [Act.put, List.setIfInBounds_toArray, List.set_cons_zero, List.set_cons_succ])
  ((with_reducible apply E_no); rfl; simp only [Act.put, List.setIfInBounds_toArray, List.set_cons_zero, List.set_cons_succ])
  ((with_reducible apply E_no); rfl; simp only [Act.put, List.setIfInBounds_toArray, List.set_cons_zero, List.set_cons_succ])
  ((with_reducible apply E_run); rfl; rfl; (intro w M; go_simp; (try go_ints); (try simp only [↓IntWalk.iteOmega]); (try with_reducible rfl)); simp only [Act.put, List.setIfInBounds_toArray, List.set_cons_zero, List.set_cons_succ])
  ((with_reducible apply E_run); rfl; rfl; (intro w M; go_simp; (try go_ints); (try simp only [↓IntWalk.iteOmega]); (try with_reducible rfl)); simp only [Act.put, List.setIfInBounds_toArray, List.set_cons_zero, List.set_cons_succ])
  refine E_nil ?_
  intro w9 K M
  replace HR := hid (HR.out.kept K)
  clear K
  refine S_done ?_
  go_wp2_with fail
  go_ret2
  exact ⟨_, rfl, HR.out, M.kept⟩

set_option maxHeartbeats 4000000 in
set_option maxRecDepth 100000 in
theorem refusal_revert (st : Value) (fb q m G C : Nat) (fs0 : Array Value) (cv mc : Value) (ns : List Nat) (w : World) (hF : FrameQ w fb q fs0 m G ns mc) (hf : FrC fs0 q cv) (hn : 2 ≤ ns.length) (hn2 : ns.length ≤ 40) (hCG : C ≤ G)
    (hC : ∀ w', Kept [] w w' → Calls Salg.prog 183 #[st, .pointer (some ⟨fb, q, none⟩), .int .u8 253] w' fun e w'' => ∃ r, e = .returned r ∧ NumV w'' r C ∧ Kept [] w' w'') :
    Calls Salg.prog 111 #[st, .pointer (some ⟨fb, q, none⟩), .int .u8 253] w fun e w' => ∃ r, e = .returned (.tuple #[.int .u8 0, r]) ∧ NumV w' r C ∧ Kept [] w w' := by
  have M := Mem.start w []
  obtain ⟨fs, pv, gv, sv, xs, hr, hsz, hfs, h3, hpv, h4, hgv, h8, hsv, hxs, hmv⟩ := hF
  have hxl := hxs.1
  obtain ⟨p, n, cp, rfl⟩ := rowV_slice hsv
  obtain rfl : n = xs.length := by
    rcases hsv with ⟨e, e2⟩ | ⟨g, cap, cur, e, _⟩
    · cases e; subst e2; rfl
    · cases e; rfl
  have h2 := (hfs (q + 2) (by omega) (by omega) (by omega) (by omega)).trans hf.f2
  have HG := hid hgv
  have HC := hid hC
  have d1 : decide ((xs.length : Int) < (2 : Int)) = false := by simp <;> omega
  have d2 : decide ((64 : Int) < (xs.length : Int) - (2 : Int) + (0 : Int)) = false := by simp; omega
  have d3 : decide ((64 : Int) < (xs.length : Int) - (2 : Int)) = false := by simp; omega
  have d4 : decide ((64 : Int) < (xs.length : Int)) = false := by simp; omega
  have d5 : decide ((xs.length : Int) < 0) = false := by simp
  clear hgv hC hfs hsv hxs hpv hf hsz hmv h3
  go_enter Salg.func111, Salg.ntmps111
  go_wp2_with fail
  refine (arity_revert _).mono ?_
  rintro e w1 ⟨rfl, hw⟩
  replace hw := hw.symm
  subst hw
  go_wp2_with (first
    | ((with_reducible apply W_loadCell); rfl; exact M.kept.row hr (by simp); exact h8; exact Salg.underlying140; rfl; simp only [Act.put, List.setIfInBounds_toArray, List.set_cons_zero, List.set_cons_succ])
    | ((with_reducible apply W_loadCell); rfl; exact M.kept.row hr (by simp); exact h2; exact Salg.underlying4; rfl; simp only [Act.put, List.setIfInBounds_toArray, List.set_cons_zero, List.set_cons_succ]))
  refine S_region (by kernel_rfl) ?_
  refine E_stage 0 19 [0, 1, 2, 3, 5, 8, 9, 10, 11, 12, 13, 4, 6, 7, 14, 15, 16, 17, 18] (by kernel_rfl) M.drew ?_
  clear M
  simp only [List.filterMap_cons, List.filterMap_nil, List.getElem?_cons_zero, List.getElem?_cons_succ]
  ((with_reducible apply E_run); rfl; rfl; (intro w M; go_simp; (try go_ints); (try simp only [↓IntWalk.iteOmega]); (try with_reducible rfl)); simp only [Act.put, List.setIfInBounds_toArray, List.set_cons_zero, List.set_cons_succ])
  ((with_reducible apply E_run); rfl; rfl; (intro w M; go_simp; (try go_ints); (try simp only [↓IntWalk.iteOmega]); (try with_reducible rfl)); simp only [Act.put, List.setIfInBounds_toArray, List.set_cons_zero, List.set_cons_succ])
  ((with_reducible apply E_run); rfl; rfl; (intro w M; go_simp; (try go_ints); (try simp only [↓IntWalk.iteOmega]); (try with_reducible rfl)); simp only [Act.put, List.setIfInBounds_toArray, List.set_cons_zero, List.set_cons_succ])
  ((with_reducible apply E_no); rfl; simp only [Act.put, List.setIfInBounds_toArray, List.set_cons_zero, List.set_cons_succ])
  ((with_reducible apply E_no); rfl; simp only [Act.put, List.setIfInBounds_toArray, List.set_cons_zero, List.set_cons_succ])
  ((with_reducible apply E_no); rfl; simp only [Act.put, List.setIfInBounds_toArray, List.set_cons_zero, List.set_cons_succ])
  ((with_reducible apply E_no); rfl; simp only [Act.put, List.setIfInBounds_toArray, List.set_cons_zero, List.set_cons_succ])
  ((with_reducible apply E_no); rfl; simp only [Act.put, List.setIfInBounds_toArray, List.set_cons_zero, List.set_cons_succ])
  ((with_reducible apply E_no); rfl; simp only [Act.put, List.setIfInBounds_toArray, List.set_cons_zero, List.set_cons_succ])
  ((with_reducible apply E_no); rfl; simp only [Act.put, List.setIfInBounds_toArray, List.set_cons_zero, List.set_cons_succ])
  ((with_reducible apply E_no); rfl; simp only [Act.put, List.setIfInBounds_toArray, List.set_cons_zero, List.set_cons_succ])
  ((with_reducible apply E_no); rfl; simp only [Act.put, List.setIfInBounds_toArray, List.set_cons_zero, List.set_cons_succ])
  ((with_reducible apply E_no); rfl; simp only [Act.put, List.setIfInBounds_toArray, List.set_cons_zero, List.set_cons_succ])
  ((with_reducible apply E_no); rfl; simp only [Act.put, List.setIfInBounds_toArray, List.set_cons_zero, List.set_cons_succ])
  ((with_reducible apply E_no); rfl; simp only [Act.put, List.setIfInBounds_toArray, List.set_cons_zero, List.set_cons_succ])
  ((with_reducible apply E_no); rfl; simp only [Act.put, List.setIfInBounds_toArray, List.set_cons_zero, List.set_cons_succ])
  ((with_reducible apply E_no); rfl; simp only [Act.put, List.setIfInBounds_toArray, List.set_cons_zero, List.set_cons_succ])
  ((with_reducible apply E_run); rfl; rfl; (intro w M; go_simp; (try go_ints); (try simp only [↓IntWalk.iteOmega]); (try with_reducible rfl)); simp only [Act.put, List.setIfInBounds_toArray, List.set_cons_zero, List.set_cons_succ])
  ((with_reducible apply E_run); rfl; rfl; (intro w M; go_simp; (try go_ints); (try simp only [↓IntWalk.iteOmega]); (try with_reducible rfl)); simp only [Act.put, List.setIfInBounds_toArray, List.set_cons_zero, List.set_cons_succ])
  refine E_nil ?_
  intro w9 K M
  clear K
  refine S_done ?_
  go_wp2_with fail
  refine (HC.out _ M.kept).mono ?_
  rintro e w2 ⟨r, rfl, xHR, K⟩
  have HR := hid xHR
  replace M := M.call K
  clear K xHR
  go_wp2_with ((with_reducible apply W_loadCell); rfl; exact M.kept.row hr (by simp); exact h4; exact Salg.underlying89; rfl; simp only [Act.put, List.setIfInBounds_toArray, List.set_cons_zero, List.set_cons_succ])
  refine (cmp_num r gv C G _ HR.out (HG.out.kept M.kept)).mono ?_
  rintro e w3 ⟨rfl, K⟩
  replace HR := hid (HR.out.kept K)
  replace M := M.call K
  clear K
  have hz : decide ((0 : Int) < cmpI C G) = false := by
    unfold cmpI
    split
    · rfl
    · rw [if_neg (by omega)]; rfl
  go_wp2_with fail
  refine S_region (by kernel_rfl) ?_
  replace HR := hid (HR.out.kept (Kept.refl [] _).drew)
  refine E_stage 0 12 [0, 1, 2, 3, 4, 5, 6, 7, 8, 9, 10, 11] (by kernel_rfl) M.drew ?_
  clear M
  simp only [List.filterMap_cons, List.filterMap_nil, List.getElem?_cons_zero, List.getElem?_cons_succ]
  ((with_reducible apply E_run); rfl; rfl; (intro w M; go_simp; (try go_ints); (try simp only [↓IntWalk.iteOmega]); (try with_reducible rfl)); simp only [Act.put, List.setIfInBounds_toArray, List.set_cons_zero, List.set_cons_succ])
  ((with_reducible apply E_run); rfl; rfl; (intro w M; go_simp; (try go_ints); (try simp only [↓IntWalk.iteOmega]); (try with_reducible rfl)); simp only [Act.put, List.setIfInBounds_toArray, List.set_cons_zero, List.set_cons_succ])
  ((with_reducible apply E_run); rfl; rfl; (intro w M; go_simp; (try go_ints); (try simp only [↓IntWalk.iteOmega]); (try with_reducible rfl)); simp only [Act.put, List.setIfInBounds_toArray, List.set_cons_zero, List.set_cons_succ])
  ((with_reducible apply E_no); rfl; simp only [Act.put, List.setIfInBounds_toArray, List.set_cons_zero, List.set_cons_succ])
  ((with_reducible apply E_no); rfl; simp only [Act.put, List.setIfInBounds_toArray, List.set_cons_zero, List.set_cons_succ])
  ((with_reducible apply E_no); rfl; simp only [Act.put, List.setIfInBounds_toArray, List.set_cons_zero, List.set_cons_succ])
  ((with_reducible apply E_no); rfl; simp only [Act.put, List.setIfInBounds_toArray, List.set_cons_zero, List.set_cons_succ])
  ((with_reducible apply E_no); rfl; simp only [Act.put, List.setIfInBounds_toArray, List.set_cons_zero, List.set_cons_succ])
  ((with_reducible apply E_no); rfl; simp only [Act.put, List.setIfInBounds_toArray, List.set_cons_zero, List.set_cons_succ])
  ((with_reducible apply E_no); rfl; simp only [Act.put, List.setIfInBounds_toArray, List.set_cons_zero, List.set_cons_succ])
  ((with_reducible apply E_run); rfl; rfl; (intro w M; go_simp; (try go_ints); (try simp only [↓IntWalk.iteOmega]); (try with_reducible rfl)); simp only [Act.put, List.setIfInBounds_toArray, List.set_cons_zero, List.set_cons_succ])
  ((with_reducible apply E_run); rfl; rfl; (intro w M; go_simp; (try go_ints); (try simp only [↓IntWalk.iteOmega]); (try with_reducible rfl)); simp only [Act.put, List.setIfInBounds_toArray, List.set_cons_zero, List.set_cons_succ])
  refine E_nil ?_
  intro w9 K M
  replace HR := hid (HR.out.kept K)
  clear K
  refine S_done ?_
  go_wp2_with fail
  refine S_region (by kernel_rfl) ?_
  replace HR := hid (HR.out.kept (Kept.refl [] _).drew)
  refine E_stage 0 13 [0, 1, 2, 3, 4, 5, 6, 7, 8, 9, 10, 11, 12] (by kernel_rfl) M.drew ?_
  clear M
  simp only [List.filterMap_cons, List.filterMap_nil, List.getElem?_cons_zero, List.getElem?_cons_succ]
  ((with_reducible apply E_run); rfl; rfl; (intro w M; go_simp; (try go_ints); (try simp only [↓IntWalk.iteOmega]); (try with_reducible rfl)); simp only [Act.put, List.setIfInBounds_toArray, List.set_cons_zero, List.set_cons_succ])
  ((with_reducible apply E_run); rfl; rfl; (intro w M; go_simp; (try go_ints); (try simp only [↓IntWalk.iteOmega]); (try with_reducible rfl)); simp only [Act.put, List.setIfInBounds_toArray, List.set_cons_zero, List.set_cons_succ])
  ((with_reducible apply E_run); rfl; rfl; (intro w M; go_simp; (try go_ints); (try simp only [↓IntWalk.iteOmega]); (try with_reducible rfl)); simp only [Act.put, List.setIfInBounds_toArray, List.set_cons_zero, List.set_cons_succ])
  ((with_reducible apply E_no); rfl; simp only [Act.put, List.setIfInBounds_toArray, List.set_cons_zero, List.set_cons_succ])
  ((with_reducible apply E_no); rfl; simp only [Act.put, List.setIfInBounds_toArray, List.set_cons_zero, List.set_cons_succ])
  ((with_reducible apply E_no); rfl; simp only [Act.put, List.setIfInBounds_toArray, List.set_cons_zero, List.set_cons_succ])
  ((with_reducible apply E_no); rfl; simp only [Act.put, List.setIfInBounds_toArray, List.set_cons_zero, List.set_cons_succ])
  ((with_reducible apply E_no); rfl; simp only [Act.put, List.setIfInBounds_toArray, List.set_cons_zero, List.set_cons_succ])
  ((with_reducible apply E_no); rfl; simp only [Act.put, List.setIfInBounds_toArray, List.set_cons_zero, List.set_cons_succ])
  ((with_reducible apply E_no); rfl; simp only [Act.put, List.setIfInBounds_toArray, List.set_cons_zero, List.set_cons_succ])
  ((with_reducible apply E_no); rfl; simp only [Act.put, List.setIfInBounds_toArray, List.set_cons_zero, List.set_cons_succ])
  ((with_reducible apply E_run); rfl; rfl; (intro w M; go_simp; (try go_ints); (try simp only [↓IntWalk.iteOmega]); (try with_reducible rfl)); simp only [Act.put, List.setIfInBounds_toArray, List.set_cons_zero, List.set_cons_succ])
  ((with_reducible apply E_run); rfl; rfl; (intro w M; go_simp; (try go_ints); (try simp only [↓IntWalk.iteOmega]); (try with_reducible rfl)); simp only [Act.put, List.setIfInBounds_toArray, List.set_cons_zero, List.set_cons_succ])
  refine E_nil ?_
  intro w9 K M
  replace HR := hid (HR.out.kept K)
  clear K
  refine S_done ?_
  go_wp2_with fail
  refine S_region (by kernel_rfl) ?_
  replace HR := hid (HR.out.kept (Kept.refl [] _).drew)
  refine E_stage 0 19 [0, 1, 2, 3, 4, 5, 6, 7, 8, 9, 10, 11, 12, 13, 14, 15, 16, 17, 18] (by kernel_rfl) M.drew ?_
  clear M
  simp only [List.filterMap_cons, List.filterMap_nil, List.getElem?_cons_zero, List.getElem?_cons_succ]
  ((with_reducible apply E_run); rfl; rfl; (intro w M; go_simp; (try go_ints); (try simp only [↓IntWalk.iteOmega]); (try with_reducible rfl)); simp only [Act.put, List.setIfInBounds_toArray, List.set_cons_zero, List.set_cons_succ])
  ((with_reducible apply E_run); rfl; rfl; (intro w M; go_simp; (try go_ints); (try simp only [↓IntWalk.iteOmega]); (try with_reducible rfl)); simp only [Act.put, List.setIfInBounds_toArray, List.set_cons_zero, List.set_cons_succ])
  ((with_reducible apply E_run); rfl; rfl; (intro w M; go_simp; (try go_ints); (try simp only [↓IntWalk.iteOmega]); (try with_reducible rfl)); simp only [Act.put, List.setIfInBounds_toArray, List.set_cons_zero, List.set_cons_succ])
  ((with_reducible apply E_no); rfl; simp only [Act.put, List.setIfInBounds_toArray, List.set_cons_zero, List.set_cons_succ])
  ((with_reducible apply E_no); rfl; simp only [Act.put, List.setIfInBounds_toArray, List.set_cons_zero, List.set_cons_succ])
  ((with_reducible apply E_no); rfl; simp only [Act.put, List.setIfInBounds_toArray, List.set_cons_zero, List.set_cons_succ])
  ((with_reducible apply E_no); rfl; simp only [Act.put, List.setIfInBounds_toArray, List.set_cons_zero, List.set_cons_succ])
  ((with_reducible apply E_run); rfl; rfl; (intro w M; go_simp; (try go_ints); (try simp only [↓IntWalk.iteOmega]); (try with_reducible rfl)); simp only [Act.put, List.setIfInBounds_toArray, List.set_cons_zero, List.set_cons_succ])
  ((with_reducible apply E_run); rfl; rfl; (intro w M; go_simp; (try go_ints); (try simp only [↓IntWalk.iteOmega]); (try with_reducible rfl)); simp only [Act.put, List.setIfInBounds_toArray, List.set_cons_zero, List.set_cons_succ])
  ((with_reducible apply E_no); rfl; simp only [Act.put, List.setIfInBounds_toArray, List.set_cons_zero, List.set_cons_succ])
  ((with_reducible apply E_no); rfl; simp only [Act.put, List.setIfInBounds_toArray, List.set_cons_zero, List.set_cons_succ])
  ((with_reducible apply E_no); rfl; simp only [Act.put, List.setIfInBounds_toArray, List.set_cons_zero, List.set_cons_succ])
  ((with_reducible apply E_no); rfl; simp only [Act.put, List.setIfInBounds_toArray, List.set_cons_zero, List.set_cons_succ])
  ((with_reducible apply E_no); rfl; simp only [Act.put, List.setIfInBounds_toArray, List.set_cons_zero, List.set_cons_succ])
  ((with_reducible apply E_no); rfl; simp only [Act.put, List.setIfInBounds_toArray, List.set_cons_zero, List.set_cons_succ])
  ((with_reducible apply E_no); rfl; simp only [Act.put, List.setIfInBounds_toArray, List.set_cons_zero, List.set_cons_succ])
  ((with_reducible apply E_no); rfl; simp only [Act.put, List.setIfInBounds_toArray, List.set_cons_zero, List.set_cons_succ])
  ((with_reducible apply E_run); rfl; rfl; (intro w M; go_simp; (try go_ints); (try simp only [↓IntWalk.iteOmega]); (try with_reducible rfl)); simp only [Act.put, List.setIfInBounds_toArray, List.set_cons_zero, List.set_cons_succ])
  ((with_reducible apply E_run); rfl; rfl; (intro w M; go_simp; (try go_ints); (try simp only [↓IntWalk.iteOmega]); (try with_reducible rfl)); simp only [Act.put, List.setIfInBounds_toArray, List.set_cons_zero, List.set_cons_succ])
  refine E_nil ?_
  intro w9 K M
  replace HR := hid (HR.out.kept K)
  clear K
  refine S_done ?_
  go_wp2_with fail
  go_ret2
  exact ⟨_, rfl, HR.out, M.kept⟩

set_option maxHeartbeats 4000000 in
set_option maxRecDepth 100000 in
theorem refusal_invalid (st f : Value) (w : World) :
    Calls Salg.prog 111 #[st, f, .int .u8 254] w fun e w' => ∃ r, e = .returned (.tuple #[.int .u8 5, r]) ∧ NumV w' r 0 ∧ Kept [] w w' := by
  have M := Mem.start w []
  go_enter Salg.func111, Salg.ntmps111
  go_wp2_with fail
  refine (arity_invalid _).mono ?_
  rintro e w1 ⟨rfl, hw⟩
  replace hw := hw.symm
  subst hw
  go_wp2_with fail
  go_ret2
  exact ⟨_, rfl, nil_num _, M.kept⟩
end Go.Proofs.YgcsalGreat

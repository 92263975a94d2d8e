/-
  CREATE: cost, reach, refusal; STOP past the code's end; PUSH19.
-/
import Derived.Test.YgcsalGreatCx30
set_option linter.unusedSimpArgs false
set_option linter.unusedVariables false
namespace Go.Proofs.YgcsalGreat
open Go.RowKit Go.Own
set_option maxHeartbeats 4000000 in
set_option maxRecDepth 100000 in
theorem bareCost_create (st f : Value) (C : Nat) (w : World) (hs : Calls Salg.prog 245 #[st, f, .int .u8 240] w fun e w' => ∃ r, e = .returned r ∧ NumV w' r C ∧ Kept [] w w') :
    Calls Salg.prog 217 #[st, f, .int .u8 240] w fun e w' => ∃ r, e = .returned r ∧ NumV w' r C ∧ Kept [] w w' := by
  have HS := hid hs
  clear hs
  go_enter Salg.func217, Salg.ntmps217
  go_wp2_with fail
  refine (family_create _).mono ?_
  rintro e w1 ⟨rfl, hw⟩
  replace hw := hw.symm
  subst hw
  go_wp2_with fail
  refine HS.out.mono ?_
  rintro e w2 ⟨r, rfl, xr, K⟩
  have HR := hid xr
  have HK := hid K
  clear xr K
  go_wp2_with fail
  go_ret
  exact ⟨_, rfl, HR.out, HK.out⟩

set_option maxHeartbeats 4000000 in
set_option maxRecDepth 100000 in
theorem reach_create (N O D : Nat) (fb q m G : Nat) (fs0 : Array Value) (mc : Value) (ns : List Nat) (w : World) (hF : FrameQ w fb q fs0 m G (ns ++ [N, O, D]) mc) (hl : ns.length ≤ 30) (hD : O < 256 ^ 90) (hN : N < 256 ^ 90) :
    Calls Salg.prog 114 #[.pointer (some ⟨fb, q, none⟩), .int .u8 240] w fun e w' => ∃ r, e = .returned r ∧ NumV w' r (endN O N) ∧ Kept [] w w' := by
  have M := Mem.start w []
  have HA0 := hid (fun w' (K : Kept [] w w') => arg_F fb q 1 O m G fs0 mc (ns ++ [N, O, D]) w' (hF.kept K) (by simp) (by simp) (by simp; omega))
  have HA2 := hid (fun w' (K : Kept [] w w') => arg_F fb q 2 N m G fs0 mc (ns ++ [N, O, D]) w' (hF.kept K) (by simp) (by simp) (by simp; omega))
  clear hF
  go_enter Salg.func114, Salg.ntmps114
  go_wp2_with fail
  refine (HA0.out _ M.kept).mono ?_
  rintro e w1 ⟨r0, rfl, xH0, K⟩
  have H0 := hid xH0
  replace M := M.call K
  clear K xH0
  go_wp2_with fail
  refine (HA2.out _ M.kept).mono ?_
  rintro e w2 ⟨r1, rfl, xH1, K⟩
  have H1 := hid xH1
  replace H0 := hid (H0.out.kept K)
  replace M := M.call K
  clear K xH1
  go_wp2_with fail
  refine (end_any r0 r1 O N _ H0.out H1.out (by omega) (by omega)).mono ?_
  rintro e w3 ⟨r2, rfl, xH2, K⟩
  have H2 := hid xH2
  replace M := M.call K
  clear K xH2
  go_wp2_with fail
  go_ret
  exact ⟨_, rfl, H2.out, M.kept⟩



set_option maxHeartbeats 4000000 in
set_option maxRecDepth 100000 in
theorem enterCost_create (st : Value) (N O D : Nat) (fb q m G : Nat) (fs0 : Array Value) (mc : Value) (ns : List Nat) (w : World) (hF : FrameQ w fb q fs0 m G (ns ++ [N, O, D]) mc) (hl : ns.length ≤ 30) (hN : N ≤ 1000) :
    Calls Salg.prog 245 #[st, .pointer (some ⟨fb, q, none⟩), .int .u8 240] w fun e w' => ∃ r, e = .returned r ∧ NumV w' r (32000 + 2 * ((N + 31) / 32)) ∧ Kept [] w w' := by
  have M := Mem.start w []
  have HA2 := hid (fun w' (K : Kept [] w w') => arg_F fb q 2 N m G fs0 mc (ns ++ [N, O, D]) w' (hF.kept K) (by simp) (by simp) (by simp; omega))
  clear hF
  go_enter Salg.func245, Salg.ntmps245
  go_wp2_with fail
  refine (num_int _ 32000 rfl (by decide) _).mono ?_
  rintro e w1 ⟨r0, rfl, xH0, K⟩
  have H0 := hid xH0
  replace M := M.call K
  clear K xH0
  go_wp2_with fail
  refine (num_int _ 2 rfl (by decide) _).mono ?_
  rintro e w2 ⟨r1, rfl, xH1, K⟩
  have H1 := hid xH1
  replace H0 := hid (H0.out.kept K)
  replace M := M.call K
  clear K xH1
  go_wp2_with fail
  refine (HA2.out _ M.kept).mono ?_
  rintro e w3 ⟨r2, rfl, xH2, K⟩
  have H2 := hid xH2
  replace H0 := hid (H0.out.kept K)
  replace H1 := hid (H1.out.kept K)
  replace M := M.call K
  clear K xH2
  go_wp2_with fail
  refine (words_any r2 N _ H2.out (Nat.lt_of_le_of_lt hN (by decide))).mono ?_
  rintro e w4 ⟨r3, rfl, xH3, K⟩
  have H3 := hid xH3
  replace H0 := hid (H0.out.kept K)
  replace H1 := hid (H1.out.kept K)
  replace M := M.call K
  clear K xH3
  go_wp2_with fail
  refine (mul_num r1 r3 2 ((N + 31) / 32) _ H1.out H3.out (by decide) (by omega)).mono ?_
  rintro e w5 ⟨r4, rfl, xH4, K⟩
  have H4 := hid xH4
  replace H0 := hid (H0.out.kept K)
  replace M := M.call K
  clear K xH4
  go_wp2_with fail
  refine (add_num r0 r4 32000 (2 * ((N + 31) / 32)) _ H0.out H4.out (by decide) (by omega)).mono ?_
  rintro e w6 ⟨r5, rfl, xH5, K⟩
  have H5 := hid xH5
  replace M := M.call K
  clear K xH5
  go_wp2_with fail
  go_ret
  exact ⟨_, rfl, H5.out, M.kept⟩
set_option maxHeartbeats 4000000 in
set_option maxRecDepth 100000 in
theorem refusalD_create (st : Value) (fb q m G C : Nat) (fs0 : Array Value) (cv mc : Value) (ns : List Nat) (w : World) (hF : FrameQ w fb q fs0 m G ns mc) (hf : FrD fs0 q cv) (hn : 3 ≤ ns.length) (hn2 : ns.length ≤ 40) (hCG : C ≤ G)
    (hA2 : ∀ w', Kept [] w w' → Calls Salg.prog 116 #[.pointer (some ⟨fb, q, none⟩), .int .i64 2] w' fun e w'' => ∃ r, e = .returned r ∧ NumV w'' r 19 ∧ Kept [] w' w'')
    (hC : ∀ w', Kept [] w w' → Calls Salg.prog 183 #[st, .pointer (some ⟨fb, q, none⟩), .int .u8 240] w' fun e w'' => ∃ r, e = .returned r ∧ NumV w'' r C ∧ Kept [] w' w'') :
    Calls Salg.prog 111 #[st, .pointer (some ⟨fb, q, none⟩), .int .u8 240] w fun e w' => ∃ r, e = .returned (.tuple #[.int .u8 0, r]) ∧ NumV w' r C ∧ Kept [] w w' := by
  have M := Mem.start w []
  obtain ⟨fs, pv, gv, sv, xs, hr, hsz, hfs, h3, hpv, h4, hgv, h8, hsv, hxs, hmv⟩ := hF
  have hxl := hxs.1
  obtain ⟨p, n, cp, rfl⟩ := rowV_slice hsv
  obtain rfl : n = xs.length := by
    rcases hsv with ⟨e, e2⟩ | ⟨g, cap, cur, e, _⟩
    · cases e; subst e2; rfl
    · cases e; rfl
  have h2 := (hfs (q + 2) (by omega) (by omega) (by omega) (by omega)).trans hf.f2
  have HG := hid hgv
  have HC := hid hC
  have HA2 := hid hA2
  have d1 : decide ((xs.length : Int) < (3 : Int)) = false := by simp <;> omega
  have d2 : decide ((64 : Int) < (xs.length : Int) - (3 : Int) + (1 : Int)) = false := by simp; omega
  have d3 : decide ((64 : Int) < (xs.length : Int) - (3 : Int)) = false := by simp; omega
  have d4 : decide ((64 : Int) < (xs.length : Int)) = false := by simp; omega
  have d5 : decide ((xs.length : Int) < 0) = false := by simp
  clear hA2 hgv hC hfs hsv hxs hpv hf hsz hmv h3
  go_enter Salg.func111, Salg.ntmps111
  go_wp2_with fail
  refine (arity_create _).mono ?_
  rintro e w1 ⟨rfl, hw⟩
  replace hw := hw.symm
  subst hw
  go_wp2_with (first
    | ((with_reducible apply W_loadCell); rfl; exact M.kept.row hr (by simp); exact h8; exact Salg.underlying140; rfl; simp only [Act.put, List.setIfInBounds_toArray, List.set_cons_zero, List.set_cons_succ])
    | ((with_reducible apply W_loadCell); rfl; exact M.kept.row hr (by simp); exact h2; exact Salg.underlying4; rfl; simp only [Act.put, List.setIfInBounds_toArray, List.set_cons_zero, List.set_cons_succ]))
  refine (HA2.out _ M.kept).mono ?_
  rintro e wa ⟨ra, rfl, xHRA, K⟩
  have HRA := hid xHRA
  replace M := M.call K
  clear K xHRA
  go_wp2_with fail
  refine (num_int _ 512 rfl (by decide) _).mono ?_
  rintro e wb ⟨rb, rfl, xHRB, K⟩
  have HRB := hid xHRB
  replace HRA := hid (HRA.out.kept K)
  replace M := M.call K
  clear K xHRB
  go_wp2_with fail
  refine (cmp_le ra rb 19 512 (by decide) _ HRA.out HRB.out).mono ?_
  rintro e wc ⟨rc, rfl, hrr, K⟩
  replace M := M.call K
  clear K HRA HRB
  have dr : decide (0 < rc) = false := by simp; omega
  go_wp2_with fail
  refine S_region (by kernel_rfl) ?_
  refine E_stage 0 19 [0, 1, 2, 3, 5, 8, 9, 10, 11, 12, 13, 4, 6, 7, 14, 15, 16, 17, 18] (by kernel_rfl) M.drew ?_
  clear M
  simp only [List.filterMap_cons, List.filterMap_nil, List.getElem?_cons_zero, List.getElem?_cons_succ]
  ((with_reducible apply E_run); rfl; rfl; (intro w M; go_simp; (try go_ints); (try simp only [↓IntWalk.iteOmega]); (try with_reducible rfl)); simp only [Act.put, List.setIfInBounds_toArray, List.set_cons_zero, List.set_cons_succ])
  ((with_reducible apply E_run); rfl; rfl; (intro w M; go_simp; (try go_ints); (try simp only [↓IntWalk.iteOmega]); (try with_reducible rfl)); simp only [Act.put, List.setIfInBounds_toArray, List.set_cons_zero, List.set_cons_succ])
  ((with_reducible apply E_run); rfl; rfl; (intro w M; go_simp; (try go_ints); (try simp only [↓IntWalk.iteOmega]); (try with_reducible rfl)); simp only [Act.put, List.setIfInBounds_toArray, List.set_cons_zero, List.set_cons_succ])
  ((with_reducible apply E_no); rfl; simp only [Act.put, List.setIfInBounds_toArray, List.set_cons_zero, List.set_cons_succ])
  ((with_reducible apply E_no); rfl; simp only [Act.put, List.setIfInBounds_toArray, List.set_cons_zero, List.set_cons_succ])
  ((with_reducible apply E_no); rfl; simp only [Act.put, List.setIfInBounds_toArray, List.set_cons_zero, List.set_cons_succ])
  ((with_reducible apply E_no); rfl; simp only [Act.put, List.setIfInBounds_toArray, List.set_cons_zero, List.set_cons_succ])
  ((with_reducible apply E_no); rfl; simp only [Act.put, List.setIfInBounds_toArray, List.set_cons_zero, List.set_cons_succ])
  ((with_reducible apply E_no); rfl; simp only [Act.put, List.setIfInBounds_toArray, List.set_cons_zero, List.set_cons_succ])
  ((with_reducible apply E_no); rfl; simp only [Act.put, List.setIfInBounds_toArray, List.set_cons_zero, List.set_cons_succ])
  ((with_reducible apply E_no); rfl; simp only [Act.put, List.setIfInBounds_toArray, List.set_cons_zero, List.set_cons_succ])
  ((with_reducible apply E_no); rfl; simp only [Act.put, List.setIfInBounds_toArray, List.set_cons_zero, List.set_cons_succ])
  ((with_reducible apply E_no); rfl; simp only [Act.put, List.setIfInBounds_toArray, List.set_cons_zero, List.set_cons_succ])
  ((with_reducible apply E_no); rfl; simp only [Act.put, List.setIfInBounds_toArray, List.set_cons_zero, List.set_cons_succ])
  ((with_reducible apply E_no); rfl; simp only [Act.put, List.setIfInBounds_toArray, List.set_cons_zero, List.set_cons_succ])
  ((with_reducible apply E_no); rfl; simp only [Act.put, List.setIfInBounds_toArray, List.set_cons_zero, List.set_cons_succ])
  ((with_reducible apply E_no); rfl; simp only [Act.put, List.setIfInBounds_toArray, List.set_cons_zero, List.set_cons_succ])
  ((with_reducible apply E_run); rfl; rfl; (intro w M; go_simp; (try go_ints); (try simp only [↓IntWalk.iteOmega]); (try with_reducible rfl)); simp only [Act.put, List.setIfInBounds_toArray, List.set_cons_zero, List.set_cons_succ])
  ((with_reducible apply E_run); rfl; rfl; (intro w M; go_simp; (try go_ints); (try simp only [↓IntWalk.iteOmega]); (try with_reducible rfl)); simp only [Act.put, List.setIfInBounds_toArray, List.set_cons_zero, List.set_cons_succ])
  refine E_nil ?_
  intro w9 K M
  clear K
  refine S_done ?_
  go_wp2_with fail
  refine (HC.out _ M.kept).mono ?_
  rintro e w2 ⟨r, rfl, xHR, K⟩
  have HR := hid xHR
  replace M := M.call K
  clear K xHR
  go_wp2_with ((with_reducible apply W_loadCell); rfl; exact M.kept.row hr (by simp); exact h4; exact Salg.underlying89; rfl; simp only [Act.put, List.setIfInBounds_toArray, List.set_cons_zero, List.set_cons_succ])
  refine (cmp_num r gv C G _ HR.out (HG.out.kept M.kept)).mono ?_
  rintro e w3 ⟨rfl, K⟩
  replace HR := hid (HR.out.kept K)
  replace M := M.call K
  clear K
  have hz : decide ((0 : Int) < cmpI C G) = false := by
    unfold cmpI
    split
    · rfl
    · rw [if_neg (by omega)]; rfl
  go_wp2_with fail
  refine S_region (by kernel_rfl) ?_
  replace HR := hid (HR.out.kept (Kept.refl [] _).drew)
  refine E_stage 0 12 [0, 1, 2, 3, 4, 5, 6, 7, 8, 9, 10, 11] (by kernel_rfl) M.drew ?_
  clear M
  simp only [List.filterMap_cons, List.filterMap_nil, List.getElem?_cons_zero, List.getElem?_cons_succ]
  ((with_reducible apply E_run); rfl; rfl; (intro w M; go_simp; (try go_ints); (try simp only [↓IntWalk.iteOmega]); (try with_reducible rfl)); simp only [Act.put, List.setIfInBounds_toArray, List.set_cons_zero, List.set_cons_succ])
  ((with_reducible apply E_run); rfl; rfl; (intro w M; go_simp; (try go_ints); (try simp only [↓IntWalk.iteOmega]); (try with_reducible rfl)); simp only [Act.put, List.setIfInBounds_toArray, List.set_cons_zero, List.set_cons_succ])
  ((with_reducible apply E_run); rfl; rfl; (intro w M; go_simp; (try go_ints); (try simp only [↓IntWalk.iteOmega]); (try with_reducible rfl)); simp only [Act.put, List.setIfInBounds_toArray, List.set_cons_zero, List.set_cons_succ])
  ((with_reducible apply E_no); rfl; simp only [Act.put, List.setIfInBounds_toArray, List.set_cons_zero, List.set_cons_succ])
  ((with_reducible apply E_no); rfl; simp only [Act.put, List.setIfInBounds_toArray, List.set_cons_zero, List.set_cons_succ])
  ((with_reducible apply E_no); rfl; simp only [Act.put, List.setIfInBounds_toArray, List.set_cons_zero, List.set_cons_succ])
  ((with_reducible apply E_no); rfl; simp only [Act.put, List.setIfInBounds_toArray, List.set_cons_zero, List.set_cons_succ])
  ((with_reducible apply E_no); rfl; simp only [Act.put, List.setIfInBounds_toArray, List.set_cons_zero, List.set_cons_succ])
  ((with_reducible apply E_no); rfl; simp only [Act.put, List.setIfInBounds_toArray, List.set_cons_zero, List.set_cons_succ])
  ((with_reducible apply E_no); rfl; simp only [Act.put, List.setIfInBounds_toArray, List.set_cons_zero, List.set_cons_succ])
  ((with_reducible apply E_run); rfl; rfl; (intro w M; go_simp; (try go_ints); (try simp only [↓IntWalk.iteOmega]); (try with_reducible rfl)); simp only [Act.put, List.setIfInBounds_toArray, List.set_cons_zero, List.set_cons_succ])
  ((with_reducible apply E_run); rfl; rfl; (intro w M; go_simp; (try go_ints); (try simp only [↓IntWalk.iteOmega]); (try with_reducible rfl)); simp only [Act.put, List.setIfInBounds_toArray, List.set_cons_zero, List.set_cons_succ])
  refine E_nil ?_
  intro w9 K M
  replace HR := hid (HR.out.kept K)
  clear K
  refine S_done ?_
  go_wp2_with fail
  refine S_region (by kernel_rfl) ?_
  replace HR := hid (HR.out.kept (Kept.refl [] _).drew)
  refine E_stage 0 13 [0, 1, 2, 3, 4, 5, 6, 7, 8, 9, 10, 11, 12] (by kernel_rfl) M.drew ?_
  clear M
  simp only [List.filterMap_cons, List.filterMap_nil, List.getElem?_cons_zero, List.getElem?_cons_succ]
  ((with_reducible apply E_run); rfl; rfl; (intro w M; go_simp; (try go_ints); (try simp only [↓IntWalk.iteOmega]); (try with_reducible rfl)); simp only [Act.put, List.setIfInBounds_toArray, List.set_cons_zero, List.set_cons_succ])
  ((with_reducible apply E_run); rfl; rfl; (intro w M; go_simp; (try go_ints); (try simp only [↓IntWalk.iteOmega]); (try with_reducible rfl)); simp only [Act.put, List.setIfInBounds_toArray, List.set_cons_zero, List.set_cons_succ])
  ((with_reducible apply E_run); rfl; rfl; (intro w M; go_simp; (try go_ints); (try simp only [↓IntWalk.iteOmega]); (try with_reducible rfl)); simp only [Act.put, List.setIfInBounds_toArray, List.set_cons_zero, List.set_cons_succ])
  ((with_reducible apply E_no); rfl; simp only [Act.put, List.setIfInBounds_toArray, List.set_cons_zero, List.set_cons_succ])
  ((with_reducible apply E_no); rfl; simp only [Act.put, List.setIfInBounds_toArray, List.set_cons_zero, List.set_cons_succ])
  ((with_reducible apply E_no); rfl; simp only [Act.put, List.setIfInBounds_toArray, List.set_cons_zero, List.set_cons_succ])
  ((with_reducible apply E_no); rfl; simp only [Act.put, List.setIfInBounds_toArray, List.set_cons_zero, List.set_cons_succ])
  ((with_reducible apply E_no); rfl; simp only [Act.put, List.setIfInBounds_toArray, List.set_cons_zero, List.set_cons_succ])
  ((with_reducible apply E_no); rfl; simp only [Act.put, List.setIfInBounds_toArray, List.set_cons_zero, List.set_cons_succ])
  ((with_reducible apply E_no); rfl; simp only [Act.put, List.setIfInBounds_toArray, List.set_cons_zero, List.set_cons_succ])
  ((with_reducible apply E_no); rfl; simp only [Act.put, List.setIfInBounds_toArray, List.set_cons_zero, List.set_cons_succ])
  ((with_reducible apply E_run); rfl; rfl; (intro w M; go_simp; (try go_ints); (try simp only [↓IntWalk.iteOmega]); (try with_reducible rfl)); simp only [Act.put, List.setIfInBounds_toArray, List.set_cons_zero, List.set_cons_succ])
  ((with_reducible apply E_run); rfl; rfl; (intro w M; go_simp; (try go_ints); (try simp only [↓IntWalk.iteOmega]); (try with_reducible rfl)); simp only [Act.put, List.setIfInBounds_toArray, List.set_cons_zero, List.set_cons_succ])
  refine E_nil ?_
  intro w9 K M
  replace HR := hid (HR.out.kept K)
  clear K
  refine S_done ?_
  go_wp2_with fail
  refine S_region (by kernel_rfl) ?_
  replace HR := hid (HR.out.kept (Kept.refl [] _).drew)
  refine E_stage 0 19 [0, 1, 2, 3, 4, 5, 6, 7, 8, 9, 10, 11, 12, 13, 14, 15, 16, 17, 18] (by kernel_rfl) M.drew ?_
  clear M
  simp only [List.filterMap_cons, List.filterMap_nil, List.getElem?_cons_zero, List.getElem?_cons_succ]
  ((with_reducible apply E_run); rfl; rfl; (intro w M; go_simp; (try go_ints); (try simp only [↓IntWalk.iteOmega]); (try with_reducible rfl)); simp only [Act.put, List.setIfInBounds_toArray, List.set_cons_zero, List.set_cons_succ])
  ((with_reducible apply E_run); rfl; rfl; (intro w M; go_simp; (try go_ints); (try simp only [↓IntWalk.iteOmega]); (try with_reducible rfl)); simp only [Act.put, List.setIfInBounds_toArray, List.set_cons_zero, List.set_cons_succ])
  ((with_reducible apply E_run); rfl; rfl; (intro w M; go_simp; (try go_ints); (try simp only [↓IntWalk.iteOmega]); (try with_reducible rfl)); simp only [Act.put, List.setIfInBounds_toArray, List.set_cons_zero, List.set_cons_succ])
  ((with_reducible apply E_no); rfl; simp only [Act.put, List.setIfInBounds_toArray, List.set_cons_zero, List.set_cons_succ])
  ((with_reducible apply E_no); rfl; simp only [Act.put, List.setIfInBounds_toArray, List.set_cons_zero, List.set_cons_succ])
  ((with_reducible apply E_no); rfl; simp only [Act.put, List.setIfInBounds_toArray, List.set_cons_zero, List.set_cons_succ])
  ((with_reducible apply E_no); rfl; simp only [Act.put, List.setIfInBounds_toArray, List.set_cons_zero, List.set_cons_succ])
  ((with_reducible apply E_run); rfl; rfl; (intro w M; go_simp; (try go_ints); (try simp only [↓IntWalk.iteOmega]); (try with_reducible rfl)); simp only [Act.put, List.setIfInBounds_toArray, List.set_cons_zero, List.set_cons_succ])
  ((with_reducible apply E_run); rfl; rfl; (intro w M; go_simp; (try go_ints); (try simp only [↓IntWalk.iteOmega]); (try with_reducible rfl)); simp only [Act.put, List.setIfInBounds_toArray, List.set_cons_zero, List.set_cons_succ])
  ((with_reducible apply E_no); rfl; simp only [Act.put, List.setIfInBounds_toArray, List.set_cons_zero, List.set_cons_succ])
  ((with_reducible apply E_no); rfl; simp only [Act.put, List.setIfInBounds_toArray, List.set_cons_zero, List.set_cons_succ])
  ((with_reducible apply E_no); rfl; simp only [Act.put, List.setIfInBounds_toArray, List.set_cons_zero, List.set_cons_succ])
  ((with_reducible apply E_no); rfl; simp only [Act.put, List.setIfInBounds_toArray, List.set_cons_zero, List.set_cons_succ])
  ((with_reducible apply E_no); rfl; simp only [Act.put, List.setIfInBounds_toArray, List.set_cons_zero, List.set_cons_succ])
  ((with_reducible apply E_no); rfl; simp only [Act.put, List.setIfInBounds_toArray, List.set_cons_zero, List.set_cons_succ])
  ((with_reducible apply E_no); rfl; simp only [Act.put, List.setIfInBounds_toArray, List.set_cons_zero, List.set_cons_succ])
  ((with_reducible apply E_no); rfl; simp only [Act.put, List.setIfInBounds_toArray, List.set_cons_zero, List.set_cons_succ])
  ((with_reducible apply E_run); rfl; rfl; (intro w M; go_simp; (try go_ints); (try simp only [↓IntWalk.iteOmega]); (try with_reducible rfl)); simp only [Act.put, List.setIfInBounds_toArray, List.set_cons_zero, List.set_cons_succ])
  ((with_reducible apply E_run); rfl; rfl; (intro w M; go_simp; (try go_ints); (try simp only [↓IntWalk.iteOmega]); (try with_reducible rfl)); simp only [Act.put, List.setIfInBounds_toArray, List.set_cons_zero, List.set_cons_succ])
  refine E_nil ?_
  intro w9 K M
  replace HR := hid (HR.out.kept K)
  clear K
  refine S_done ?_
  go_wp2_with fail
  go_ret2
  exact ⟨_, rfl, HR.out, M.kept⟩


set_option maxHeartbeats 4000000 in
set_option maxRecDepth 100000 in
theorem opcode_end (fb q m : Nat) (fs : Array Value) (pv cv : Value) (ds : List Nat) (w : World) (hr : w.heap[fb]? = some (.cells fs 142 (0, 0))) (h3 : fs[q + 3]? = some pv) (h10 : fs[q + 10]? = some cv) (hp : NumV w pv m) (hc : NatV w cv ds) (hm : ds.length ≤ m) (hs : m < 18446744073709551616) (hl : ds.length ≤ 1000) :
    Calls Salg.prog 110 #[.pointer (some ⟨fb, q, none⟩)] w fun e w' => e = .returned (.int .u8 0) ∧ Kept [] w w' := by
  have M := Mem.start w []
  obtain ⟨p, c, rfl, hc1, hc2, hd, hsm⟩ := hc
  have HP := hid hp
  clear hd hsm hp
  generalize ds.length = n at *
  have HPL := hid (fun w' (K : Kept [] w w') => place_out pv m n w' (HP.out.kept K) (by omega) hm hs)
  go_enter Salg.func110, Salg.ntmps110
  go_wp2_with fail
  refine S_region (by kernel_rfl) ?_
  refine V_quiet 0 9 (by kernel_rfl) (by decide) M.drew ?_
  clear M
  simp only [List.take_succ_cons, List.take_zero, List.drop_zero, List.drop_succ_cons, Nat.sub_zero, Nat.reduceSub]
  ((with_reducible apply V_run); rfl; (intro w M; go_simp; (try go_ints); (try simp only [↓IntWalk.iteOmega]); (try with_reducible rfl)); simp only [Act.put, List.setIfInBounds_toArray, List.set_cons_zero, List.set_cons_succ])
  ((with_reducible apply V_run); rfl; (intro w M; go_simp; (try go_ints); (try simp only [↓IntWalk.iteOmega]); (try with_reducible rfl)); simp only [Act.put, List.setIfInBounds_toArray, List.set_cons_zero, List.set_cons_succ])
  ((with_reducible apply V_run); rfl; (intro w M; go_simp; (try go_ints); (try simp only [↓IntWalk.iteOmega]); (try with_reducible rfl)); simp only [Act.put, List.setIfInBounds_toArray, List.set_cons_zero, List.set_cons_succ])
  ((with_reducible apply V_run); rfl; (intro w M; exact run_loadCell (M.kept.row hr (by simp)) rfl h3 Salg.underlying89 rfl); simp only [Act.put, List.setIfInBounds_toArray, List.set_cons_zero, List.set_cons_succ])
  ((with_reducible apply V_run); rfl; (intro w M; go_simp; (try go_ints); (try simp only [↓IntWalk.iteOmega]); (try with_reducible rfl)); simp only [Act.put, List.setIfInBounds_toArray, List.set_cons_zero, List.set_cons_succ])
  ((with_reducible apply V_run); rfl; (intro w M; go_simp; (try go_ints); (try simp only [↓IntWalk.iteOmega]); (try with_reducible rfl)); simp only [Act.put, List.setIfInBounds_toArray, List.set_cons_zero, List.set_cons_succ])
  ((with_reducible apply V_run); rfl; (intro w M; go_simp; (try go_ints); (try simp only [↓IntWalk.iteOmega]); (try with_reducible rfl)); simp only [Act.put, List.setIfInBounds_toArray, List.set_cons_zero, List.set_cons_succ])
  ((with_reducible apply V_run); rfl; (intro w M; exact run_loadCell (M.kept.row hr (by simp)) rfl h10 Salg.underlying40 rfl); simp only [Act.put, List.setIfInBounds_toArray, List.set_cons_zero, List.set_cons_succ])
  ((with_reducible apply V_run); rfl; (intro w M; go_simp; (try go_ints); (try simp only [↓IntWalk.iteOmega]); (try with_reducible rfl)); simp only [Act.put, List.setIfInBounds_toArray, List.set_cons_zero, List.set_cons_succ])
  refine V_nil ?_
  intro w4 M
  refine S_seg 9 11 (by kernel_rfl) (by decide) ?_
  simp only [List.take_succ_cons, List.take_zero, List.drop_zero, List.drop_succ_cons, Nat.sub_zero, Nat.reduceSub]
  go_wp2_with fail
  refine (HPL.out _ M.kept).mono ?_
  rintro e w5 ⟨rfl, rfl⟩
  go_wp2_with fail
  refine V_quiet 11 15 (by kernel_rfl) (by decide) M ?_
  clear M
  simp only [List.take_succ_cons, List.take_zero, List.drop_zero, List.drop_succ_cons, Nat.sub_zero, Nat.reduceSub]
  ((with_reducible apply V_run); rfl; (intro w M; go_simp; (try go_ints); (try simp only [↓IntWalk.iteOmega]); (try with_reducible rfl)); simp only [Act.put, List.setIfInBounds_toArray, List.set_cons_zero, List.set_cons_succ])
  ((with_reducible apply V_run); rfl; (intro w M; go_simp; (try go_ints); (try simp only [↓IntWalk.iteOmega]); (try with_reducible rfl)); simp only [Act.put, List.setIfInBounds_toArray, List.set_cons_zero, List.set_cons_succ])
  ((with_reducible apply V_run); rfl; (intro w M; go_simp; (try go_ints); (try simp only [↓IntWalk.iteOmega]); (try with_reducible rfl)); simp only [Act.put, List.setIfInBounds_toArray, List.set_cons_zero, List.set_cons_succ])
  ((with_reducible apply V_run); rfl; (intro w M; go_simp; (try go_ints); (try simp only [↓IntWalk.iteOmega]); (try with_reducible rfl)); simp only [Act.put, List.setIfInBounds_toArray, List.set_cons_zero, List.set_cons_succ])
  refine V_nil ?_
  intro w5 M
  refine S_done ?_
  go_wp2_with (first
    | ((with_reducible apply W_loadCell); rfl; exact M.kept.row hr (by simp); exact h10; exact Salg.underlying40; rfl; simp only [Act.put, List.setIfInBounds_toArray, List.set_cons_zero, List.set_cons_succ])
    | ((with_reducible apply W_loadCell); rfl; exact M.kept.row hrb (by simp); exact HM.out; exact Salg.underlying5; rfl; simp only [Act.put, List.setIfInBounds_toArray, List.set_cons_zero, List.set_cons_succ]))
  go_ret
  exact ⟨rfl, M.kept⟩



set_option maxHeartbeats 4000000 in
set_option maxRecDepth 100000 in
theorem stepQ_stop1 (c fb m G k U fam s A0 A1 : Nat) (cs fs0 : Array Value) (cap : Nat) (ns : List Nat) (cv mv : Value) (ds : List Nat) (F2 Post : World → Prop) (F3 : Value → World → Prop) (w : World) (hc : w.heap[c]? = some (.cells cs 119 (0, 0))) (h9 : cs[9]? = some (.slice (some ⟨fb, 0, none⟩) 1 cap)) (h11 : cs[11]? = some (.int .u8 1)) (hF : FrameQ w fb 0 fs0 m G ns mv) (hcv : NatV w cv ds) (hm : ds.length ≤ m) (hms : m < 18446744073709551616) (hl : ds.length ≤ 1000) (sb : Bool) (hfc : FrB fs0 0 sb cv) (hkG : k ≤ G) (hG : G < 256 ^ 200)
    (hRef : ∀ w', Kept [] w w' → Calls Salg.prog 111 #[.pointer (some ⟨c, 0, none⟩), .pointer (some ⟨fb, 0, none⟩), .int .u8 0] w' fun e w'' => ∃ r, e = .returned (.tuple #[.int .u8 0, r]) ∧ NumV w'' r k ∧ Kept [] w' w'')
    (hRe : ∀ w', Kept [fb] w w' → FrameQ w' fb 0 fs0 m (G - k) ns mv → Calls Salg.prog 114 #[.pointer (some ⟨fb, 0, none⟩), .int .u8 0] w' fun e w'' => ∃ r, e = .returned r ∧ NumV w'' r U ∧ Kept [] w' w'')
    (hGr : ∀ w' r, Kept [fb] w w' → FrameQ w' fb 0 fs0 m (G - k) ns mv → NumV w' r U → Calls Salg.prog 113 #[.pointer (some ⟨fb, 0, none⟩), r] w' fun e w'' => ∃ r', e = .returned r' ∧ F2 w'' ∧ Kept [fb] w' w'')
    (hPl : ∀ w', Kept [fb] w w' → F2 w' → Calls Salg.prog 112 #[.pointer (some ⟨c, 0, none⟩), .int .u8 0, .slice none 0 0] w' fun e w'' => ∃ r, e = .returned r ∧ Post w'')
    : Calls Salg.prog 27 #[.pointer (some ⟨c, 0, none⟩)] w fun e w' => e = .returned (.bool true) ∧ Post w' := by
  have M := Mem.start w []
  obtain ⟨fs, pv, gv, sv, xs, hr, hsz, hfs, h3, hpv, h4, hgv, h8, hsv, hxs, hmv⟩ := hF
  have hxl := hxs.1
  obtain ⟨p, n, cp, rfl⟩ := rowV_slice hsv
  obtain rfl : n = xs.length := by
    rcases hsv with ⟨e, e2⟩ | ⟨g, cap, cur, e, _⟩
    · cases e; subst e2; rfl
    · cases e; rfl
  have hnb := hid (not_bytes_at (tc := 142) h8)
  have z4 : 0 + 4 < fs.size := (Array.getElem?_eq_some_iff.1 h4).1
  have g1 := (hfs (0 + 1) (by decide) (by decide) (by decide) (by decide)).trans hfc.f1
  have g10 := (hfs (0 + 10) (by decide) (by decide) (by decide) (by decide)).trans hfc.f10
  have HSZ := hid hsz
  have HFS := hid hfs
  have HGV := hid hgv
  have HCV := hid hcv
  have HSV := hid hsv
  have HXS := hid hxs
  have HPV := hid hpv
  have HRF := hid hRef
  have HREx := hid hRe
  have HGRx := hid hGr
  have HPLx := hid hPl
  clear hfs hgv hcv hsv hxs hpv hRef hsz hRe hGr hPl
  go_enter Salg.func27, Salg.ntmps27
  go_wp2_with (first
    | ((with_reducible apply W_loadCell); rfl; exact M.kept.row hc (by simp); exact h11; exact Salg.underlying5; rfl; simp only [Act.put, List.setIfInBounds_toArray, List.set_cons_zero, List.set_cons_succ])
    | ((with_reducible apply W_loadCellG); rfl; rfl; exact M.kept.row hc (by simp); exact h9; exact Salg.underlying115; rfl; simp only [Act.put, List.setIfInBounds_toArray, List.set_cons_zero, List.set_cons_succ]))
  refine S_region (by kernel_rfl) ?_
  refine E_stage 0 12 [0, 1, 2, 3, 4, 5, 6, 7, 8, 9, 10, 11] (by kernel_rfl) M.drew ?_
  clear M
  simp only [List.filterMap_cons, List.filterMap_nil, List.getElem?_cons_zero, List.getElem?_cons_succ]
  ((with_reducible apply E_run); rfl; rfl; (intro w M; go_simp; (try go_ints); (try simp only [↓IntWalk.iteOmega]); (try with_reducible rfl)); simp only [Act.put, List.setIfInBounds_toArray, List.set_cons_zero, List.set_cons_succ])
  ((with_reducible apply E_run); rfl; rfl; (intro w M; go_simp; (try go_ints); (try simp only [↓IntWalk.iteOmega]); (try with_reducible rfl)); simp only [Act.put, List.setIfInBounds_toArray, List.set_cons_zero, List.set_cons_succ])
  ((with_reducible apply E_run); rfl; rfl; (intro w M; go_simp; (try go_ints); (try simp only [↓IntWalk.iteOmega]); (try with_reducible rfl)); simp only [Act.put, List.setIfInBounds_toArray, List.set_cons_zero, List.set_cons_succ])
  ((with_reducible apply E_run); rfl; rfl; (intro w M; exact run_loadCell (M.kept.row hc (by simp)) rfl h9 Salg.underlying115 rfl); simp only [Act.put, List.setIfInBounds_toArray, List.set_cons_zero, List.set_cons_succ])
  ((with_reducible apply E_run); rfl; rfl; (intro w M; go_simp; (try go_ints); (try simp only [↓IntWalk.iteOmega]); (try with_reducible rfl)); simp only [Act.put, List.setIfInBounds_toArray, List.set_cons_zero, List.set_cons_succ])
  ((with_reducible apply E_run); rfl; rfl; (intro w M; go_simp; (try go_ints); (try simp only [↓IntWalk.iteOmega]); (try with_reducible rfl)); simp only [Act.put, List.setIfInBounds_toArray, List.set_cons_zero, List.set_cons_succ])
  ((with_reducible apply E_run); rfl; rfl; (intro w M; go_simp; (try go_ints); (try simp only [↓IntWalk.iteOmega]); (try with_reducible rfl)); simp only [Act.put, List.setIfInBounds_toArray, List.set_cons_zero, List.set_cons_succ])
  ((with_reducible apply E_run); rfl; rfl; (intro w M; exact run_loadCell (M.kept.row hc (by simp)) rfl h9 Salg.underlying115 rfl); simp only [Act.put, List.setIfInBounds_toArray, List.set_cons_zero, List.set_cons_succ])
  ((with_reducible apply E_run); rfl; rfl; (intro w M; go_simp; (try go_ints); (try simp only [↓IntWalk.iteOmega]); (try with_reducible rfl)); simp only [Act.put, List.setIfInBounds_toArray, List.set_cons_zero, List.set_cons_succ])
  ((with_reducible apply E_run); rfl; rfl; (intro w M; go_simp; (try go_ints); (try simp only [↓IntWalk.iteOmega]); (try with_reducible rfl)); simp only [Act.put, List.setIfInBounds_toArray, List.set_cons_zero, List.set_cons_succ])
  ((with_reducible apply E_run); rfl; rfl; (intro w M; go_simp; (try go_ints); (try simp only [↓IntWalk.iteOmega]); (try with_reducible rfl)); simp only [Act.put, List.setIfInBounds_toArray, List.set_cons_zero, List.set_cons_succ])
  ((with_reducible apply E_run); rfl; rfl; (intro w M; go_simp; (try go_ints); (try simp only [↓IntWalk.iteOmega]); (try with_reducible rfl)); simp only [Act.put, List.setIfInBounds_toArray, List.set_cons_zero, List.set_cons_succ])
  refine E_nil ?_
  intro w9 K M
  clear K
  refine S_done ?_
  go_wp2_with ((with_reducible apply W_loadCell); rfl; exact M.kept.row hr (by simp); exact g1; exact Salg.underlying5; rfl; simp only [Act.put, List.setIfInBounds_toArray, List.set_cons_zero, List.set_cons_succ])
  refine (opcode_end fb 0 m fs pv cv ds _ (M.kept.row hr (by simp)) h3 g10 (HPV.out.kept M.kept) (HCV.out.kept M.kept) hm hms hl).mono ?_
  rintro e w1 ⟨rfl, K⟩
  replace M := M.call K
  clear K
  go_wp2_with fail
  refine (HRF.out _ M.kept).mono ?_
  rintro e w2 ⟨r, rfl, xHR, K⟩
  have HR := hid xHR
  replace M := M.call K
  clear K xHR
  go_wp2_with ((with_reducible apply W_loadCell); rfl; exact M.kept.row hr (by simp); exact h4; exact Salg.underlying89; rfl; simp only [Act.put, List.setIfInBounds_toArray, List.set_cons_zero, List.set_cons_succ])
  refine (less_any gv r G k _ (HGV.out.kept M.kept) HR.out hG hkG).mono ?_
  rintro e w3 ⟨r2, rfl, xHR2, K⟩
  have HR2 := hid xHR2
  replace M := M.call K
  clear K xHR2
  have hrow := M.kept.row hr (by simp)
  go_wp2_with ((with_reducible apply W_stV (b := fb) (o := 0 + 4) (v := r2)); rfl; rfl; exact HR2.out.one; exact hrow; exact size89; exact z4; intro w4 K1 hr4)
  have HK := hid ((M.kept.mono (by simp)).trans K1 : Kept [fb] w w4)
  have HF : Hid (FrameQ w4 fb 0 fs0 m (G - k) ns mv) := by
    have KK := HK.out
    exact ⟨_, pv, r2, .slice p xs.length cp, xs, hr4, (Array.size_setIfInBounds).trans HSZ.out, fun j j3 j4 j8 j9 => (Array.getElem?_setIfInBounds_ne (by omega)).trans (HFS.out j j3 j4 j8 j9), (Array.getElem?_setIfInBounds_ne (by decide)).trans h3, HPV.out.keptC KK hr hnb.out, Array.getElem?_setIfInBounds_self_of_lt z4, HR2.out.keptC K1 hrow hnb.out, (Array.getElem?_setIfInBounds_ne (by decide)).trans h8, HSV.out.keptC KK hr (by decide), HXS.out.keptC KK hr hnb.out, (Array.getElem?_setIfInBounds_ne (by decide)).trans hmv⟩
  clear M K1 hr4 hrow
  go_wp2_with fail
  refine (HREx.out _ HK.out HF.out).mono ?_
  rintro e w5 ⟨r3, rfl, x3, K⟩
  have HR3 := hid x3
  replace HF := hid (HF.out.kept K)
  replace HK := hid (HK.out.trans (K.mono (by simp)))
  clear x3 K
  go_wp2_with fail
  refine (HGRx.out _ r3 HK.out HF.out HR3.out).mono ?_
  rintro e w6 ⟨r4, rfl, x4, K⟩
  have HF2 := hid x4
  replace HK := hid (HK.out.trans K)
  clear x4 K HF HR3
  go_wp2_with fail
  refine (HPLx.out _ HK.out HF2.out).mono ?_
  rintro e w8 ⟨r5, rfl, xF⟩
  have HP2 := hid xF
  clear xF
  go_wp2_with fail
  go_ret
  exact ⟨rfl, HP2.out⟩


theorem stepY_push191 {wB : World} {c fbB : Nat} {E : XEnv} {rr fb cap : Nat} {fs0 : Array Value} {m G : Nat} {ns : List Nat} {mem : List Nat} {W : Nat} {rt : Value} {rd : List Nat} {la : List (List Nat)} {w : World} {cv : Value} {ds : List Nat}  (V : Nat) (r2 : Nat) (hE : StF wB c fbB E rr fb 0 1 cap fs0 m G ns mem W rt rd la w) (hH : Hard [c, fbB] wB) (hcv : NatV wB cv ds) (hfc : FrB fs0 0 false cv) (hm : ds[m]? = some 114) (hl : ds.length ≤ 1000) (hns : ns.length ≤ 20) (hm1 : m ≤ 900) (hkG : 3 ≤ G) (hG : G ≤ 1000000) (hr2 : r2 ≤ rr) (hr3 : r2 ≤ ns.length) (hV : be (cutB ds (m + 1) 19) = V) :
    Calls Salg.prog 27 #[.pointer (some ⟨c, 0, none⟩)] w fun e w' => e = .returned (.bool true) ∧ StF wB c fbB E r2 fb 0 1 cap fs0 (m + (1 + 19)) (G - 3) (ns ++ [V]) mem W rt rd la w' := by
  obtain ⟨S, mv, hS⟩ := hE
  obtain ⟨cs, c1, c9, c10, c11, cn⟩ := hS.ch.row
  obtain ⟨mp, mc, em⟩ := hS.mm.cell
  have hG2 : G < 256 ^ 100 := Nat.lt_of_le_of_lt hG (by decide)
  have hcw := hcv.keptN hS.k hH
  have hwle := hS.wle
  refine stepB_plain1 S rr c fb m G 3 0 2 0 0 0 114 cs fs0 cap _ cv mv ds (fun w' => FrameM S rr w' fb 0 fs0 m (G - 3) ns mv) _ (fun _ _ => True) w (by decide) c1 c9 c11 hS.sl hS.fr hcw hm hl false hfc hkG (Nat.lt_of_lt_of_le hG2 (by decide)) ?_ ?_ ?_ (fun w => family_push 114 w (by decide) (by decide)) (by decide) ?_
  · intro w' K1
    have hF := hS.fr.kept K1
    refine refusalD_push19 _ fb 0 m G 3 fs0 cv _ _ w' hF.toQ hfc.toD (by simp) (by (try simp); omega) hkG fun w1 K2 => ?_
    obtain ⟨fs, f1, _, _, f9, _⟩ := (hF.kept K2).row
    rw [em] at f9
    refine costM_no _ fb 0 114 3 0 mem.length W fs mp mc w1 f1 f9 (by decide) hS.len (by omega) (by decide) (Nat.zero_le _) (fun w2 K3 => ?_) (fun w2 K3 => ?_)
    · exact bareCost_push _ _ 114 w2 (by decide) (by decide)
    · refine (reach_push _ 114 w2 (by decide) (by decide)).mono ?_
      rintro e w3 ⟨rfl, rfl⟩
      exact ⟨_, rfl, nil_num _, Kept.refl _ _⟩
  · intro w' K1 hF
    refine (reach_push _ 114 w' (by decide) (by decide)).mono ?_
    rintro e w3 ⟨rfl, rfl⟩
    exact ⟨_, rfl, nil_num _, Kept.refl _ _⟩
  · intro w' r K1 hF hr
    obtain ⟨fs, f1, _, _, f9, _⟩ := hF.row
    rw [em] at f9
    refine (growM_no fb 0 0 mem.length W fs mp mc r w' f1 f9 hr hS.len (by omega) (by decide) (Nat.zero_le _)).mono ?_
    rintro e w3 ⟨r', rfl, K⟩
    exact ⟨r', rfl, hF.kept K, K.mono (by simp)⟩
  · intro w' K1 hF
    have hS2 := hS.frame K1 hF
    have hcw2 := hcv.keptN hS2.k hH
    refine (plainM_push S rr r2 _ fb 0 m (G - 3) 114 19 3 fs0 cv mv ds ns w' (opk_push 114 (by decide) (by decide)) (by decide) (by decide) hS2.sl hF hr2 hr3 hfc.f10 hcw2 (by omega) (by omega) hl).mono ?_
    rintro e w'' ⟨r, rfl, K2, hF2⟩
    rw [hV] at hF2
    exact ⟨r, rfl, S, mv, hS2.frame K2 hF2⟩

end Go.Proofs.YgcsalGreat

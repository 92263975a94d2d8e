/-
  (*yp.State).refusal at the instructions of Copies and Context.
-/
import Derived.Test.YgcsalGreatCp0
import Derived.Test.YgcsalGreatCp2
import Derived.Test.YgcsalGreatSl27
set_option linter.unusedSimpArgs false
set_option linter.unusedVariables false
namespace Go.Proofs.YgcsalGreat
open Go.RowKit Go.Own

set_option maxHeartbeats 4000000 in
set_option maxRecDepth 100000 in
theorem refusalD_push1 (st : Value) (fb q m G C : Nat) (fs0 : Array Value) (cv mc : Value) (ns : List Nat) (w : World) (hF : FrameQ w fb q fs0 m G ns mc) (hf : FrD fs0 q cv) (hn : 0 ≤ ns.length) (hn2 : ns.length ≤ 40) (hCG : C ≤ G)
    (hC : ∀ w', Kept [] w w' → Calls Salg.prog 183 #[st, .pointer (some ⟨fb, q, none⟩), .int .u8 96] w' fun e w'' => ∃ r, e = .returned r ∧ NumV w'' r C ∧ Kept [] w' w'') :
    Calls Salg.prog 111 #[st, .pointer (some ⟨fb, q, none⟩), .int .u8 96] w fun e w' => ∃ r, e = .returned (.tuple #[.int .u8 0, r]) ∧ NumV w' r C ∧ Kept [] w w' := by
  have M := Mem.start w []
  obtain ⟨fs, pv, gv, sv, xs, hr, hsz, hfs, h3, hpv, h4, hgv, h8, hsv, hxs, hmv⟩ := hF
  have hxl := hxs.1
  obtain ⟨p, n, cp, rfl⟩ := rowV_slice hsv
  obtain rfl : n = xs.length := by
    rcases hsv with ⟨e, e2⟩ | ⟨g, cap, cur, e, _⟩
    · cases e; subst e2; rfl
    · cases e; rfl
  have h2 := (hfs (q + 2) (by omega) (by omega) (by omega) (by omega)).trans hf.f2
  have HG := hid hgv
  have HC := hid hC
  have d1 : decide ((xs.length : Int) < (0 : Int)) = false := by simp <;> omega
  have d2 : decide ((64 : Int) < (xs.length : Int) - (0 : Int) + (1 : Int)) = false := by simp; omega
  have d3 : decide ((64 : Int) < (xs.length : Int) - (0 : Int)) = false := by simp; omega
  have d4 : decide ((64 : Int) < (xs.length : Int)) = false := by simp; omega
  have d5 : decide ((xs.length : Int) < 0) = false := by simp
  clear hgv hC hfs hsv hxs hpv hf hsz hmv h3
  go_enter Salg.func111, Salg.ntmps111
  go_wp2_with fail
  refine (arity_push 96 _ (by decide) (by decide)).mono ?_
  rintro e w1 ⟨rfl, hw⟩
  replace hw := hw.symm
  subst hw
  go_wp2_with (first
    | ((with_reducible apply W_loadCell); rfl; exact M.kept.row hr (by simp); exact h8; exact Salg.underlying140; rfl; simp only [Act.put, List.setIfInBounds_toArray, List.set_cons_zero, List.set_cons_succ])
    | ((with_reducible apply W_loadCell); rfl; exact M.kept.row hr (by simp); exact h2; exact Salg.underlying4; rfl; simp only [Act.put, List.setIfInBounds_toArray, List.set_cons_zero, List.set_cons_succ]))
  refine S_region (by kernel_rfl) ?_
  refine E_stage 0 19 [0, 1, 2, 3, 5, 8, 9, 10, 11, 12, 13, 4, 6, 7, 14, 15, 16, 17, 18] (by kernel_rfl) M.drew ?_
  clear M
  simp only [List.filterMap_cons, List.filterMap_nil, List.getElem?_cons_zero, List.getElem?_cons_succ]
  ((with_reducible apply E_run); rfl; rfl; (intro w M; go_simp; (try go_ints); (try simp only [↓IntWalk.iteOmega]); (try with_reducible rfl)); simp only [Act.put, List.setIfInBounds_toArray, List.set_cons_zero, List.set_cons_succ])
  ((with_reducible apply E_run); rfl; rfl; (intro w M; go_simp; (try go_ints); (try simp only [↓IntWalk.iteOmega]); (try with_reducible rfl)); simp only [Act.put, List.setIfInBounds_toArray, List.set_cons_zero, List.set_cons_succ])
  ((with_reducible apply E_run); rfl; rfl; (intro w M; go_simp; (try go_ints); (try simp only [↓IntWalk.iteOmega]); (try with_reducible rfl)); simp only [Act.put, List.setIfInBounds_toArray, List.set_cons_zero, List.set_cons_succ])
  ((with_reducible apply E_no); rfl; simp only [Act.put, List.setIfInBounds_toArray, List.set_cons_zero, List.set_cons_succ])
  ((with_reducible apply E_no); rfl; simp only [Act.put, List.setIfInBounds_toArray, List.set_cons_zero, List.set_cons_succ])
  ((with_reducible apply E_no); rfl; simp only [Act.put, List.setIfInBounds_toArray, List.set_cons_zero, List.set_cons_succ])
  ((with_reducible apply E_no); rfl; simp only [Act.put, List.setIfInBounds_toArray, List.set_cons_zero, List.set_cons_succ])
  ((with_reducible apply E_no); rfl; simp only [Act.put, List.setIfInBounds_toArray, List.set_cons_zero, List.set_cons_succ])
  ((with_reducible apply E_no); rfl; simp only [Act.put, List.setIfInBounds_toArray, List.set_cons_zero, List.set_cons_succ])
  ((with_reducible apply E_no); rfl; simp only [Act.put, List.setIfInBounds_toArray, List.set_cons_zero, List.set_cons_succ])
  ((with_reducible apply E_no); rfl; simp only [Act.put, List.setIfInBounds_toArray, List.set_cons_zero, List.set_cons_succ])
  ((with_reducible apply E_no); rfl; simp only [Act.put, List.setIfInBounds_toArray, List.set_cons_zero, List.set_cons_succ])
  ((with_reducible apply E_no); rfl; simp only [Act.put, List.setIfInBounds_toArray, List.set_cons_zero, List.set_cons_succ])
  ((with_reducible apply E_no); rfl; simp only [Act.put, List.setIfInBounds_toArray, List.set_cons_zero, List.set_cons_succ])
  ((with_reducible apply E_no); rfl; simp only [Act.put, List.setIfInBounds_toArray, List.set_cons_zero, List.set_cons_succ])
  ((with_reducible apply E_no); rfl; simp only [Act.put, List.setIfInBounds_toArray, List.set_cons_zero, List.set_cons_succ])
  ((with_reducible apply E_no); rfl; simp only [Act.put, List.setIfInBounds_toArray, List.set_cons_zero, List.set_cons_succ])
  ((with_reducible apply E_run); rfl; rfl; (intro w M; go_simp; (try go_ints); (try simp only [↓IntWalk.iteOmega]); (try with_reducible rfl)); simp only [Act.put, List.setIfInBounds_toArray, List.set_cons_zero, List.set_cons_succ])
  ((with_reducible apply E_run); rfl; rfl; (intro w M; go_simp; (try go_ints); (try simp only [↓IntWalk.iteOmega]); (try with_reducible rfl)); simp only [Act.put, List.setIfInBounds_toArray, List.set_cons_zero, List.set_cons_succ])
  refine E_nil ?_
  intro w9 K M
  clear K
  refine S_done ?_
  go_wp2_with fail
  refine (HC.out _ M.kept).mono ?_
  rintro e w2 ⟨r, rfl, xHR, K⟩
  have HR := hid xHR
  replace M := M.call K
  clear K xHR
  go_wp2_with ((with_reducible apply W_loadCell); rfl; exact M.kept.row hr (by simp); exact h4; exact Salg.underlying89; rfl; simp only [Act.put, List.setIfInBounds_toArray, List.set_cons_zero, List.set_cons_succ])
  refine (cmp_num r gv C G _ HR.out (HG.out.kept M.kept)).mono ?_
  rintro e w3 ⟨rfl, K⟩
  replace HR := hid (HR.out.kept K)
  replace M := M.call K
  clear K
  have hz : decide ((0 : Int) < cmpI C G) = false := by
    unfold cmpI
    split
    · rfl
    · rw [if_neg (by omega)]; rfl
  go_wp2_with fail
  refine S_region (by kernel_rfl) ?_
  replace HR := hid (HR.out.kept (Kept.refl [] _).drew)
  refine E_stage 0 12 [0, 1, 2, 3, 4, 5, 6, 7, 8, 9, 10, 11] (by kernel_rfl) M.drew ?_
  clear M
  simp only [List.filterMap_cons, List.filterMap_nil, List.getElem?_cons_zero, List.getElem?_cons_succ]
  ((with_reducible apply E_run); rfl; rfl; (intro w M; go_simp; (try go_ints); (try simp only [↓IntWalk.iteOmega]); (try with_reducible rfl)); simp only [Act.put, List.setIfInBounds_toArray, List.set_cons_zero, List.set_cons_succ])
  ((with_reducible apply E_run); rfl; rfl; (intro w M; go_simp; (try go_ints); (try simp only [↓IntWalk.iteOmega]); (try with_reducible rfl)); simp only [Act.put, List.setIfInBounds_toArray, List.set_cons_zero, List.set_cons_succ])
  ((with_reducible apply E_run); rfl; rfl; (intro w M; go_simp; (try go_ints); (try simp only [↓IntWalk.iteOmega]); (try with_reducible rfl)); simp only [Act.put, List.setIfInBounds_toArray, List.set_cons_zero, List.set_cons_succ])
  ((with_reducible apply E_no); rfl; simp only [Act.put, List.setIfInBounds_toArray, List.set_cons_zero, List.set_cons_succ])
  ((with_reducible apply E_no); rfl; simp only [Act.put, List.setIfInBounds_toArray, List.set_cons_zero, List.set_cons_succ])
  ((with_reducible apply E_no); rfl; simp only [Act.put, List.setIfInBounds_toArray, List.set_cons_zero, List.set_cons_succ])
  ((with_reducible apply E_no); rfl; simp only [Act.put, List.setIfInBounds_toArray, List.set_cons_zero, List.set_cons_succ])
  ((with_reducible apply E_no); rfl; simp only [Act.put, List.setIfInBounds_toArray, List.set_cons_zero, List.set_cons_succ])
  ((with_reducible apply E_no); rfl; simp only [Act.put, List.setIfInBounds_toArray, List.set_cons_zero, List.set_cons_succ])
  ((with_reducible apply E_no); rfl; simp only [Act.put, List.setIfInBounds_toArray, List.set_cons_zero, List.set_cons_succ])
  ((with_reducible apply E_run); rfl; rfl; (intro w M; go_simp; (try go_ints); (try simp only [↓IntWalk.iteOmega]); (try with_reducible rfl)); simp only [Act.put, List.setIfInBounds_toArray, List.set_cons_zero, List.set_cons_succ])
  ((with_reducible apply E_run); rfl; rfl; (intro w M; go_simp; (try go_ints); (try simp only [↓IntWalk.iteOmega]); (try with_reducible rfl)); simp only [Act.put, List.setIfInBounds_toArray, List.set_cons_zero, List.set_cons_succ])
  refine E_nil ?_
  intro w9 K M
  replace HR := hid (HR.out.kept K)
  clear K
  refine S_done ?_
  go_wp2_with fail
  refine S_region (by kernel_rfl) ?_
  replace HR := hid (HR.out.kept (Kept.refl [] _).drew)
  refine E_stage 0 13 [0, 1, 2, 3, 4, 5, 6, 7, 8, 9, 10, 11, 12] (by kernel_rfl) M.drew ?_
  clear M
  simp only [List.filterMap_cons, List.filterMap_nil, List.getElem?_cons_zero, List.getElem?_cons_succ]
  ((with_reducible apply E_run); rfl; rfl; (intro w M; go_simp; (try go_ints); (try simp only [↓IntWalk.iteOmega]); (try with_reducible rfl)); simp only [Act.put, List.setIfInBounds_toArray, List.set_cons_zero, List.set_cons_succ])
  ((with_reducible apply E_run); rfl; rfl; (intro w M; go_simp; (try go_ints); (try simp only [↓IntWalk.iteOmega]); (try with_reducible rfl)); simp only [Act.put, List.setIfInBounds_toArray, List.set_cons_zero, List.set_cons_succ])
  ((with_reducible apply E_run); rfl; rfl; (intro w M; go_simp; (try go_ints); (try simp only [↓IntWalk.iteOmega]); (try with_reducible rfl)); simp only [Act.put, List.setIfInBounds_toArray, List.set_cons_zero, List.set_cons_succ])
  ((with_reducible apply E_no); rfl; simp only [Act.put, List.setIfInBounds_toArray, List.set_cons_zero, List.set_cons_succ])
  ((with_reducible apply E_no); rfl; simp only [Act.put, List.setIfInBounds_toArray, List.set_cons_zero, List.set_cons_succ])
  ((with_reducible apply E_no); rfl; simp only [Act.put, List.setIfInBounds_toArray, List.set_cons_zero, List.set_cons_succ])
  ((with_reducible apply E_no); rfl; simp only [Act.put, List.setIfInBounds_toArray, List.set_cons_zero, List.set_cons_succ])
  ((with_reducible apply E_no); rfl; simp only [Act.put, List.setIfInBounds_toArray, List.set_cons_zero, List.set_cons_succ])
  ((with_reducible apply E_no); rfl; simp only [Act.put, List.setIfInBounds_toArray, List.set_cons_zero, List.set_cons_succ])
  ((with_reducible apply E_no); rfl; simp only [Act.put, List.setIfInBounds_toArray, List.set_cons_zero, List.set_cons_succ])
  ((with_reducible apply E_no); rfl; simp only [Act.put, List.setIfInBounds_toArray, List.set_cons_zero, List.set_cons_succ])
  ((with_reducible apply E_run); rfl; rfl; (intro w M; go_simp; (try go_ints); (try simp only [↓IntWalk.iteOmega]); (try with_reducible rfl)); simp only [Act.put, List.setIfInBounds_toArray, List.set_cons_zero, List.set_cons_succ])
  ((with_reducible apply E_run); rfl; rfl; (intro w M; go_simp; (try go_ints); (try simp only [↓IntWalk.iteOmega]); (try with_reducible rfl)); simp only [Act.put, List.setIfInBounds_toArray, List.set_cons_zero, List.set_cons_succ])
  refine E_nil ?_
  intro w9 K M
  replace HR := hid (HR.out.kept K)
  clear K
  refine S_done ?_
  go_wp2_with fail
  refine S_region (by kernel_rfl) ?_
  replace HR := hid (HR.out.kept (Kept.refl [] _).drew)
  refine E_stage 0 19 [0, 1, 2, 3, 4, 5, 6, 7, 8, 9, 10, 11, 12, 13, 14, 15, 16, 17, 18] (by kernel_rfl) M.drew ?_
  clear M
  simp only [List.filterMap_cons, List.filterMap_nil, List.getElem?_cons_zero, List.getElem?_cons_succ]
  ((with_reducible apply E_run); rfl; rfl; (intro w M; go_simp; (try go_ints); (try simp only [↓IntWalk.iteOmega]); (try with_reducible rfl)); simp only [Act.put, List.setIfInBounds_toArray, List.set_cons_zero, List.set_cons_succ])
  ((with_reducible apply E_run); rfl; rfl; (intro w M; go_simp; (try go_ints); (try simp only [↓IntWalk.iteOmega]); (try with_reducible rfl)); simp only [Act.put, List.setIfInBounds_toArray, List.set_cons_zero, List.set_cons_succ])
  ((with_reducible apply E_run); rfl; rfl; (intro w M; go_simp; (try go_ints); (try simp only [↓IntWalk.iteOmega]); (try with_reducible rfl)); simp only [Act.put, List.setIfInBounds_toArray, List.set_cons_zero, List.set_cons_succ])
  ((with_reducible apply E_no); rfl; simp only [Act.put, List.setIfInBounds_toArray, List.set_cons_zero, List.set_cons_succ])
  ((with_reducible apply E_no); rfl; simp only [Act.put, List.setIfInBounds_toArray, List.set_cons_zero, List.set_cons_succ])
  ((with_reducible apply E_no); rfl; simp only [Act.put, List.setIfInBounds_toArray, List.set_cons_zero, List.set_cons_succ])
  ((with_reducible apply E_no); rfl; simp only [Act.put, List.setIfInBounds_toArray, List.set_cons_zero, List.set_cons_succ])
  ((with_reducible apply E_run); rfl; rfl; (intro w M; go_simp; (try go_ints); (try simp only [↓IntWalk.iteOmega]); (try with_reducible rfl)); simp only [Act.put, List.setIfInBounds_toArray, List.set_cons_zero, List.set_cons_succ])
  ((with_reducible apply E_run); rfl; rfl; (intro w M; go_simp; (try go_ints); (try simp only [↓IntWalk.iteOmega]); (try with_reducible rfl)); simp only [Act.put, List.setIfInBounds_toArray, List.set_cons_zero, List.set_cons_succ])
  ((with_reducible apply E_no); rfl; simp only [Act.put, List.setIfInBounds_toArray, List.set_cons_zero, List.set_cons_succ])
  ((with_reducible apply E_no); rfl; simp only [Act.put, List.setIfInBounds_toArray, List.set_cons_zero, List.set_cons_succ])
  ((with_reducible apply E_no); rfl; simp only [Act.put, List.setIfInBounds_toArray, List.set_cons_zero, List.set_cons_succ])
  ((with_reducible apply E_no); rfl; simp only [Act.put, List.setIfInBounds_toArray, List.set_cons_zero, List.set_cons_succ])
  ((with_reducible apply E_no); rfl; simp only [Act.put, List.setIfInBounds_toArray, List.set_cons_zero, List.set_cons_succ])
  ((with_reducible apply E_no); rfl; simp only [Act.put, List.setIfInBounds_toArray, List.set_cons_zero, List.set_cons_succ])
  ((with_reducible apply E_no); rfl; simp only [Act.put, List.setIfInBounds_toArray, List.set_cons_zero, List.set_cons_succ])
  ((with_reducible apply E_no); rfl; simp only [Act.put, List.setIfInBounds_toArray, List.set_cons_zero, List.set_cons_succ])
  ((with_reducible apply E_run); rfl; rfl; (intro w M; go_simp; (try go_ints); (try simp only [↓IntWalk.iteOmega]); (try with_reducible rfl)); simp only [Act.put, List.setIfInBounds_toArray, List.set_cons_zero, List.set_cons_succ])
  ((with_reducible apply E_run); rfl; rfl; (intro w M; go_simp; (try go_ints); (try simp only [↓IntWalk.iteOmega]); (try with_reducible rfl)); simp only [Act.put, List.setIfInBounds_toArray, List.set_cons_zero, List.set_cons_succ])
  refine E_nil ?_
  intro w9 K M
  replace HR := hid (HR.out.kept K)
  clear K
  refine S_done ?_
  go_wp2_with fail
  go_ret2
  exact ⟨_, rfl, HR.out, M.kept⟩

set_option maxHeartbeats 4000000 in
set_option maxRecDepth 100000 in
theorem refusalD_push32 (st : Value) (fb q m G C : Nat) (fs0 : Array Value) (cv mc : Value) (ns : List Nat) (w : World) (hF : FrameQ w fb q fs0 m G ns mc) (hf : FrD fs0 q cv) (hn : 0 ≤ ns.length) (hn2 : ns.length ≤ 40) (hCG : C ≤ G)
    (hC : ∀ w', Kept [] w w' → Calls Salg.prog 183 #[st, .pointer (some ⟨fb, q, none⟩), .int .u8 127] w' fun e w'' => ∃ r, e = .returned r ∧ NumV w'' r C ∧ Kept [] w' w'') :
    Calls Salg.prog 111 #[st, .pointer (some ⟨fb, q, none⟩), .int .u8 127] w fun e w' => ∃ r, e = .returned (.tuple #[.int .u8 0, r]) ∧ NumV w' r C ∧ Kept [] w w' := by
  have M := Mem.start w []
  obtain ⟨fs, pv, gv, sv, xs, hr, hsz, hfs, h3, hpv, h4, hgv, h8, hsv, hxs, hmv⟩ := hF
  have hxl := hxs.1
  obtain ⟨p, n, cp, rfl⟩ := rowV_slice hsv
  obtain rfl : n = xs.length := by
    rcases hsv with ⟨e, e2⟩ | ⟨g, cap, cur, e, _⟩
    · cases e; subst e2; rfl
    · cases e; rfl
  have h2 := (hfs (q + 2) (by omega) (by omega) (by omega) (by omega)).trans hf.f2
  have HG := hid hgv
  have HC := hid hC
  have d1 : decide ((xs.length : Int) < (0 : Int)) = false := by simp <;> omega
  have d2 : decide ((64 : Int) < (xs.length : Int) - (0 : Int) + (1 : Int)) = false := by simp; omega
  have d3 : decide ((64 : Int) < (xs.length : Int) - (0 : Int)) = false := by simp; omega
  have d4 : decide ((64 : Int) < (xs.length : Int)) = false := by simp; omega
  have d5 : decide ((xs.length : Int) < 0) = false := by simp
  clear hgv hC hfs hsv hxs hpv hf hsz hmv h3
  go_enter Salg.func111, Salg.ntmps111
  go_wp2_with fail
  refine (arity_push 127 _ (by decide) (by decide)).mono ?_
  rintro e w1 ⟨rfl, hw⟩
  replace hw := hw.symm
  subst hw
  go_wp2_with (first
    | ((with_reducible apply W_loadCell); rfl; exact M.kept.row hr (by simp); exact h8; exact Salg.underlying140; rfl; simp only [Act.put, List.setIfInBounds_toArray, List.set_cons_zero, List.set_cons_succ])
    | ((with_reducible apply W_loadCell); rfl; exact M.kept.row hr (by simp); exact h2; exact Salg.underlying4; rfl; simp only [Act.put, List.setIfInBounds_toArray, List.set_cons_zero, List.set_cons_succ]))
  refine S_region (by kernel_rfl) ?_
  refine E_stage 0 19 [0, 1, 2, 3, 5, 8, 9, 10, 11, 12, 13, 4, 6, 7, 14, 15, 16, 17, 18] (by kernel_rfl) M.drew ?_
  clear M
  simp only [List.filterMap_cons, List.filterMap_nil, List.getElem?_cons_zero, List.getElem?_cons_succ]
  ((with_reducible apply E_run); rfl; rfl; (intro w M; go_simp; (try go_ints); (try simp only [↓IntWalk.iteOmega]); (try with_reducible rfl)); simp only [Act.put, List.setIfInBounds_toArray, List.set_cons_zero, List.set_cons_succ])
  ((with_reducible apply E_run); rfl; rfl; (intro w M; go_simp; (try go_ints); (try simp only [↓IntWalk.iteOmega]); (try with_reducible rfl)); simp only [Act.put, List.setIfInBounds_toArray, List.set_cons_zero, List.set_cons_succ])
  ((with_reducible apply E_run); rfl; rfl; (intro w M; go_simp; (try go_ints); (try simp only [↓IntWalk.iteOmega]); (try with_reducible rfl)); simp only [Act.put, List.setIfInBounds_toArray, List.set_cons_zero, List.set_cons_succ])
  ((with_reducible apply E_no); rfl; simp only [Act.put, List.setIfInBounds_toArray, List.set_cons_zero, List.set_cons_succ])
  ((with_reducible apply E_no); rfl; simp only [Act.put, List.setIfInBounds_toArray, List.set_cons_zero, List.set_cons_succ])
  ((with_reducible apply E_no); rfl; simp only [Act.put, List.setIfInBounds_toArray, List.set_cons_zero, List.set_cons_succ])
  ((with_reducible apply E_no); rfl; simp only [Act.put, List.setIfInBounds_toArray, List.set_cons_zero, List.set_cons_succ])
  ((with_reducible apply E_no); rfl; simp only [Act.put, List.setIfInBounds_toArray, List.set_cons_zero, List.set_cons_succ])
  ((with_reducible apply E_no); rfl; simp only [Act.put, List.setIfInBounds_toArray, List.set_cons_zero, List.set_cons_succ])
  ((with_reducible apply E_no); rfl; simp only [Act.put, List.setIfInBounds_toArray, List.set_cons_zero, List.set_cons_succ])
  ((with_reducible apply E_no); rfl; simp only [Act.put, List.setIfInBounds_toArray, List.set_cons_zero, List.set_cons_succ])
  ((with_reducible apply E_no); rfl; simp only [Act.put, List.setIfInBounds_toArray, List.set_cons_zero, List.set_cons_succ])
  ((with_reducible apply E_no); rfl; simp only [Act.put, List.setIfInBounds_toArray, List.set_cons_zero, List.set_cons_succ])
  ((with_reducible apply E_no); rfl; simp only [Act.put, List.setIfInBounds_toArray, List.set_cons_zero, List.set_cons_succ])
  ((with_reducible apply E_no); rfl; simp only [Act.put, List.setIfInBounds_toArray, List.set_cons_zero, List.set_cons_succ])
  ((with_reducible apply E_no); rfl; simp only [Act.put, List.setIfInBounds_toArray, List.set_cons_zero, List.set_cons_succ])
  ((with_reducible apply E_no); rfl; simp only [Act.put, List.setIfInBounds_toArray, List.set_cons_zero, List.set_cons_succ])
  ((with_reducible apply E_run); rfl; rfl; (intro w M; go_simp; (try go_ints); (try simp only [↓IntWalk.iteOmega]); (try with_reducible rfl)); simp only [Act.put, List.setIfInBounds_toArray, List.set_cons_zero, List.set_cons_succ])
  ((with_reducible apply E_run); rfl; rfl; (intro w M; go_simp; (try go_ints); (try simp only [↓IntWalk.iteOmega]); (try with_reducible rfl)); simp only [Act.put, List.setIfInBounds_toArray, List.set_cons_zero, List.set_cons_succ])
  refine E_nil ?_
  intro w9 K M
  clear K
  refine S_done ?_
  go_wp2_with fail
  refine (HC.out _ M.kept).mono ?_
  rintro e w2 ⟨r, rfl, xHR, K⟩
  have HR := hid xHR
  replace M := M.call K
  clear K xHR
  go_wp2_with ((with_reducible apply W_loadCell); rfl; exact M.kept.row hr (by simp); exact h4; exact Salg.underlying89; rfl; simp only [Act.put, List.setIfInBounds_toArray, List.set_cons_zero, List.set_cons_succ])
  refine (cmp_num r gv C G _ HR.out (HG.out.kept M.kept)).mono ?_
  rintro e w3 ⟨rfl, K⟩
  replace HR := hid (HR.out.kept K)
  replace M := M.call K
  clear K
  have hz : decide ((0 : Int) < cmpI C G) = false := by
    unfold cmpI
    split
    · rfl
    · rw [if_neg (by omega)]; rfl
  go_wp2_with fail
  refine S_region (by kernel_rfl) ?_
  replace HR := hid (HR.out.kept (Kept.refl [] _).drew)
  refine E_stage 0 12 [0, 1, 2, 3, 4, 5, 6, 7, 8, 9, 10, 11] (by kernel_rfl) M.drew ?_
  clear M
  simp only [List.filterMap_cons, List.filterMap_nil, List.getElem?_cons_zero, List.getElem?_cons_succ]
  ((with_reducible apply E_run); rfl; rfl; (intro w M; go_simp; (try go_ints); (try simp only [↓IntWalk.iteOmega]); (try with_reducible rfl)); simp only [Act.put, List.setIfInBounds_toArray, List.set_cons_zero, List.set_cons_succ])
  ((with_reducible apply E_run); rfl; rfl; (intro w M; go_simp; (try go_ints); (try simp only [↓IntWalk.iteOmega]); (try with_reducible rfl)); simp only [Act.put, List.setIfInBounds_toArray, List.set_cons_zero, List.set_cons_succ])
  ((with_reducible apply E_run); rfl; rfl; (intro w M; go_simp; (try go_ints); (try simp only [↓IntWalk.iteOmega]); (try with_reducible rfl)); simp only [Act.put, List.setIfInBounds_toArray, List.set_cons_zero, List.set_cons_succ])
  ((with_reducible apply E_no); rfl; simp only [Act.put, List.setIfInBounds_toArray, List.set_cons_zero, List.set_cons_succ])
  ((with_reducible apply E_no); rfl; simp only [Act.put, List.setIfInBounds_toArray, List.set_cons_zero, List.set_cons_succ])
  ((with_reducible apply E_no); rfl; simp only [Act.put, List.setIfInBounds_toArray, List.set_cons_zero, List.set_cons_succ])
  ((with_reducible apply E_no); rfl; simp only [Act.put, List.setIfInBounds_toArray, List.set_cons_zero, List.set_cons_succ])
  ((with_reducible apply E_no); rfl; simp only [Act.put, List.setIfInBounds_toArray, List.set_cons_zero, List.set_cons_succ])
  ((with_reducible apply E_no); rfl; simp only [Act.put, List.setIfInBounds_toArray, List.set_cons_zero, List.set_cons_succ])
  ((with_reducible apply E_no); rfl; simp only [Act.put, List.setIfInBounds_toArray, List.set_cons_zero, List.set_cons_succ])
  ((with_reducible apply E_run); rfl; rfl; (intro w M; go_simp; (try go_ints); (try simp only [↓IntWalk.iteOmega]); (try with_reducible rfl)); simp only [Act.put, List.setIfInBounds_toArray, List.set_cons_zero, List.set_cons_succ])
  ((with_reducible apply E_run); rfl; rfl; (intro w M; go_simp; (try go_ints); (try simp only [↓IntWalk.iteOmega]); (try with_reducible rfl)); simp only [Act.put, List.setIfInBounds_toArray, List.set_cons_zero, List.set_cons_succ])
  refine E_nil ?_
  intro w9 K M
  replace HR := hid (HR.out.kept K)
  clear K
  refine S_done ?_
  go_wp2_with fail
  refine S_region (by kernel_rfl) ?_
  replace HR := hid (HR.out.kept (Kept.refl [] _).drew)
  refine E_stage 0 13 [0, 1, 2, 3, 4, 5, 6, 7, 8, 9, 10, 11, 12] (by kernel_rfl) M.drew ?_
  clear M
  simp only [List.filterMap_cons, List.filterMap_nil, List.getElem?_cons_zero, List.getElem?_cons_succ]
  ((with_reducible apply E_run); rfl; rfl; (intro w M; go_simp; (try go_ints); (try simp only [↓IntWalk.iteOmega]); (try with_reducible rfl)); simp only [Act.put, List.setIfInBounds_toArray, List.set_cons_zero, List.set_cons_succ])
  ((with_reducible apply E_run); rfl; rfl; (intro w M; go_simp; (try go_ints); (try simp only [↓IntWalk.iteOmega]); (try with_reducible rfl)); simp only [Act.put, List.setIfInBounds_toArray, List.set_cons_zero, List.set_cons_succ])
  ((with_reducible apply E_run); rfl; rfl; (intro w M; go_simp; (try go_ints); (try simp only [↓IntWalk.iteOmega]); (try with_reducible rfl)); simp only [Act.put, List.setIfInBounds_toArray, List.set_cons_zero, List.set_cons_succ])
  ((with_reducible apply E_no); rfl; simp only [Act.put, List.setIfInBounds_toArray, List.set_cons_zero, List.set_cons_succ])
  ((with_reducible apply E_no); rfl; simp only [Act.put, List.setIfInBounds_toArray, List.set_cons_zero, List.set_cons_succ])
  ((with_reducible apply E_no); rfl; simp only [Act.put, List.setIfInBounds_toArray, List.set_cons_zero, List.set_cons_succ])
  ((with_reducible apply E_no); rfl; simp only [Act.put, List.setIfInBounds_toArray, List.set_cons_zero, List.set_cons_succ])
  ((with_reducible apply E_no); rfl; simp only [Act.put, List.setIfInBounds_toArray, List.set_cons_zero, List.set_cons_succ])
  ((with_reducible apply E_no); rfl; simp only [Act.put, List.setIfInBounds_toArray, List.set_cons_zero, List.set_cons_succ])
  ((with_reducible apply E_no); rfl; simp only [Act.put, List.setIfInBounds_toArray, List.set_cons_zero, List.set_cons_succ])
  ((with_reducible apply E_no); rfl; simp only [Act.put, List.setIfInBounds_toArray, List.set_cons_zero, List.set_cons_succ])
  ((with_reducible apply E_run); rfl; rfl; (intro w M; go_simp; (try go_ints); (try simp only [↓IntWalk.iteOmega]); (try with_reducible rfl)); simp only [Act.put, List.setIfInBounds_toArray, List.set_cons_zero, List.set_cons_succ])
  ((with_reducible apply E_run); rfl; rfl; (intro w M; go_simp; (try go_ints); (try simp only [↓IntWalk.iteOmega]); (try with_reducible rfl)); simp only [Act.put, List.setIfInBounds_toArray, List.set_cons_zero, List.set_cons_succ])
  refine E_nil ?_
  intro w9 K M
  replace HR := hid (HR.out.kept K)
  clear K
  refine S_done ?_
  go_wp2_with fail
  refine S_region (by kernel_rfl) ?_
  replace HR := hid (HR.out.kept (Kept.refl [] _).drew)
  refine E_stage 0 19 [0, 1, 2, 3, 4, 5, 6, 7, 8, 9, 10, 11, 12, 13, 14, 15, 16, 17, 18] (by kernel_rfl) M.drew ?_
  clear M
  simp only [List.filterMap_cons, List.filterMap_nil, List.getElem?_cons_zero, List.getElem?_cons_succ]
  ((with_reducible apply E_run); rfl; rfl; (intro w M; go_simp; (try go_ints); (try simp only [↓IntWalk.iteOmega]); (try with_reducible rfl)); simp only [Act.put, List.setIfInBounds_toArray, List.set_cons_zero, List.set_cons_succ])
  ((with_reducible apply E_run); rfl; rfl; (intro w M; go_simp; (try go_ints); (try simp only [↓IntWalk.iteOmega]); (try with_reducible rfl)); simp only [Act.put, List.setIfInBounds_toArray, List.set_cons_zero, List.set_cons_succ])
  ((with_reducible apply E_run); rfl; rfl; (intro w M; go_simp; (try go_ints); (try simp only [↓IntWalk.iteOmega]); (try with_reducible rfl)); simp only [Act.put, List.setIfInBounds_toArray, List.set_cons_zero, List.set_cons_succ])
  ((with_reducible apply E_no); rfl; simp only [Act.put, List.setIfInBounds_toArray, List.set_cons_zero, List.set_cons_succ])
  ((with_reducible apply E_no); rfl; simp only [Act.put, List.setIfInBounds_toArray, List.set_cons_zero, List.set_cons_succ])
  ((with_reducible apply E_no); rfl; simp only [Act.put, List.setIfInBounds_toArray, List.set_cons_zero, List.set_cons_succ])
  ((with_reducible apply E_no); rfl; simp only [Act.put, List.setIfInBounds_toArray, List.set_cons_zero, List.set_cons_succ])
  ((with_reducible apply E_run); rfl; rfl; (intro w M; go_simp; (try go_ints); (try simp only [↓IntWalk.iteOmega]); (try with_reducible rfl)); simp only [Act.put, List.setIfInBounds_toArray, List.set_cons_zero, List.set_cons_succ])
  ((with_reducible apply E_run); rfl; rfl; (intro w M; go_simp; (try go_ints); (try simp only [↓IntWalk.iteOmega]); (try with_reducible rfl)); simp only [Act.put, List.setIfInBounds_toArray, List.set_cons_zero, List.set_cons_succ])
  ((with_reducible apply E_no); rfl; simp only [Act.put, List.setIfInBounds_toArray, List.set_cons_zero, List.set_cons_succ])
  ((with_reducible apply E_no); rfl; simp only [Act.put, List.setIfInBounds_toArray, List.set_cons_zero, List.set_cons_succ])
  ((with_reducible apply E_no); rfl; simp only [Act.put, List.setIfInBounds_toArray, List.set_cons_zero, List.set_cons_succ])
  ((with_reducible apply E_no); rfl; simp only [Act.put, List.setIfInBounds_toArray, List.set_cons_zero, List.set_cons_succ])
  ((with_reducible apply E_no); rfl; simp only [Act.put, List.setIfInBounds_toArray, List.set_cons_zero, List.set_cons_succ])
  ((with_reducible apply E_no); rfl; simp only [Act.put, List.setIfInBounds_toArray, List.set_cons_zero, List.set_cons_succ])
  ((with_reducible apply E_no); rfl; simp only [Act.put, List.setIfInBounds_toArray, List.set_cons_zero, List.set_cons_succ])
  ((with_reducible apply E_no); rfl; simp only [Act.put, List.setIfInBounds_toArray, List.set_cons_zero, List.set_cons_succ])
  ((with_reducible apply E_run); rfl; rfl; (intro w M; go_simp; (try go_ints); (try simp only [↓IntWalk.iteOmega]); (try with_reducible rfl)); simp only [Act.put, List.setIfInBounds_toArray, List.set_cons_zero, List.set_cons_succ])
  ((with_reducible apply E_run); rfl; rfl; (intro w M; go_simp; (try go_ints); (try simp only [↓IntWalk.iteOmega]); (try with_reducible rfl)); simp only [Act.put, List.setIfInBounds_toArray, List.set_cons_zero, List.set_cons_succ])
  refine E_nil ?_
  intro w9 K M
  replace HR := hid (HR.out.kept K)
  clear K
  refine S_done ?_
  go_wp2_with fail
  go_ret2
  exact ⟨_, rfl, HR.out, M.kept⟩

set_option maxHeartbeats 4000000 in
set_option maxRecDepth 100000 in
theorem refusalD_push19 (st : Value) (fb q m G C : Nat) (fs0 : Array Value) (cv mc : Value) (ns : List Nat) (w : World) (hF : FrameQ w fb q fs0 m G ns mc) (hf : FrD fs0 q cv) (hn : 0 ≤ ns.length) (hn2 : ns.length ≤ 40) (hCG : C ≤ G)
    (hC : ∀ w', Kept [] w w' → Calls Salg.prog 183 #[st, .pointer (some ⟨fb, q, none⟩), .int .u8 114] w' fun e w'' => ∃ r, e = .returned r ∧ NumV w'' r C ∧ Kept [] w' w'') :
    Calls Salg.prog 111 #[st, .pointer (some ⟨fb, q, none⟩), .int .u8 114] w fun e w' => ∃ r, e = .returned (.tuple #[.int .u8 0, r]) ∧ NumV w' r C ∧ Kept [] w w' := by
  have M := Mem.start w []
  obtain ⟨fs, pv, gv, sv, xs, hr, hsz, hfs, h3, hpv, h4, hgv, h8, hsv, hxs, hmv⟩ := hF
  have hxl := hxs.1
  obtain ⟨p, n, cp, rfl⟩ := rowV_slice hsv
  obtain rfl : n = xs.length := by
    rcases hsv with ⟨e, e2⟩ | ⟨g, cap, cur, e, _⟩
    · cases e; subst e2; rfl
    · cases e; rfl
  have h2 := (hfs (q + 2) (by omega) (by omega) (by omega) (by omega)).trans hf.f2
  have HG := hid hgv
  have HC := hid hC
  have d1 : decide ((xs.length : Int) < (0 : Int)) = false := by simp <;> omega
  have d2 : decide ((64 : Int) < (xs.length : Int) - (0 : Int) + (1 : Int)) = false := by simp; omega
  have d3 : decide ((64 : Int) < (xs.length : Int) - (0 : Int)) = false := by simp; omega
  have d4 : decide ((64 : Int) < (xs.length : Int)) = false := by simp; omega
  have d5 : decide ((xs.length : Int) < 0) = false := by simp
  clear hgv hC hfs hsv hxs hpv hf hsz hmv h3
  go_enter Salg.func111, Salg.ntmps111
  go_wp2_with fail
  refine (arity_push 114 _ (by decide) (by decide)).mono ?_
  rintro e w1 ⟨rfl, hw⟩
  replace hw := hw.symm
  subst hw
  go_wp2_with (first
    | ((with_reducible apply W_loadCell); rfl; exact M.kept.row hr (by simp); exact h8; exact Salg.underlying140; rfl; simp only [Act.put, List.setIfInBounds_toArray, List.set_cons_zero, List.set_cons_succ])
    | ((with_reducible apply W_loadCell); rfl; exact M.kept.row hr (by simp); exact h2; exact Salg.underlying4; rfl; simp only [Act.put, List.setIfInBounds_toArray, List.set_cons_zero, List.set_cons_succ]))
  refine S_region (by kernel_rfl) ?_
  refine E_stage 0 19 [0, 1, 2, 3, 5, 8, 9, 10, 11, 12, 13, 4, 6, 7, 14, 15, 16, 17, 18] (by kernel_rfl) M.drew ?_
  clear M
  simp only [List.filterMap_cons, List.filterMap_nil, List.getElem?_cons_zero, List.getElem?_cons_succ]
  ((with_reducible apply E_run); rfl; rfl; (intro w M; go_simp; (try go_ints); (try simp only [↓IntWalk.iteOmega]); (try with_reducible rfl)); simp only [Act.put, List.setIfInBounds_toArray, List.set_cons_zero, List.set_cons_succ])
  ((with_reducible apply E_run); rfl; rfl; (intro w M; go_simp; (try go_ints); (try simp only [↓IntWalk.iteOmega]); (try with_reducible rfl)); simp only [Act.put, List.setIfInBounds_toArray, List.set_cons_zero, List.set_cons_succ])
  ((with_reducible apply E_run); rfl; rfl; (intro w M; go_simp; (try go_ints); (try simp only [↓IntWalk.iteOmega]); (try with_reducible rfl)); simp only [Act.put, List.setIfInBounds_toArray, List.set_cons_zero, List.set_cons_succ])
  ((with_reducible apply E_no); rfl; simp only [Act.put, List.setIfInBounds_toArray, List.set_cons_zero, List.set_cons_succ])
  ((with_reducible apply E_no); rfl; simp only [Act.put, List.setIfInBounds_toArray, List.set_cons_zero, List.set_cons_succ])
  ((with_reducible apply E_no); rfl; simp only [Act.put, List.setIfInBounds_toArray, List.set_cons_zero, List.set_cons_succ])
  ((with_reducible apply E_no); rfl; simp only [Act.put, List.setIfInBounds_toArray, List.set_cons_zero, List.set_cons_succ])
  ((with_reducible apply E_no); rfl; simp only [Act.put, List.setIfInBounds_toArray, List.set_cons_zero, List.set_cons_succ])
  ((with_reducible apply E_no); rfl; simp only [Act.put, List.setIfInBounds_toArray, List.set_cons_zero, List.set_cons_succ])
  ((with_reducible apply E_no); rfl; simp only [Act.put, List.setIfInBounds_toArray, List.set_cons_zero, List.set_cons_succ])
  ((with_reducible apply E_no); rfl; simp only [Act.put, List.setIfInBounds_toArray, List.set_cons_zero, List.set_cons_succ])
  ((with_reducible apply E_no); rfl; simp only [Act.put, List.setIfInBounds_toArray, List.set_cons_zero, List.set_cons_succ])
  ((with_reducible apply E_no); rfl; simp only [Act.put, List.setIfInBounds_toArray, List.set_cons_zero, List.set_cons_succ])
  ((with_reducible apply E_no); rfl; simp only [Act.put, List.setIfInBounds_toArray, List.set_cons_zero, List.set_cons_succ])
  ((with_reducible apply E_no); rfl; simp only [Act.put, List.setIfInBounds_toArray, List.set_cons_zero, List.set_cons_succ])
  ((with_reducible apply E_no); rfl; simp only [Act.put, List.setIfInBounds_toArray, List.set_cons_zero, List.set_cons_succ])
  ((with_reducible apply E_no); rfl; simp only [Act.put, List.setIfInBounds_toArray, List.set_cons_zero, List.set_cons_succ])
  ((with_reducible apply E_run); rfl; rfl; (intro w M; go_simp; (try go_ints); (try simp only [↓IntWalk.iteOmega]); (try with_reducible rfl)); simp only [Act.put, List.setIfInBounds_toArray, List.set_cons_zero, List.set_cons_succ])
  ((with_reducible apply E_run); rfl; rfl; (intro w M; go_simp; (try go_ints); (try simp only [↓IntWalk.iteOmega]); (try with_reducible rfl)); simp only [Act.put, List.setIfInBounds_toArray, List.set_cons_zero, List.set_cons_succ])
  refine E_nil ?_
  intro w9 K M
  clear K
  refine S_done ?_
  go_wp2_with fail
  refine (HC.out _ M.kept).mono ?_
  rintro e w2 ⟨r, rfl, xHR, K⟩
  have HR := hid xHR
  replace M := M.call K
  clear K xHR
  go_wp2_with ((with_reducible apply W_loadCell); rfl; exact M.kept.row hr (by simp); exact h4; exact Salg.underlying89; rfl; simp only [Act.put, List.setIfInBounds_toArray, List.set_cons_zero, List.set_cons_succ])
  refine (cmp_num r gv C G _ HR.out (HG.out.kept M.kept)).mono ?_
  rintro e w3 ⟨rfl, K⟩
  replace HR := hid (HR.out.kept K)
  replace M := M.call K
  clear K
  have hz : decide ((0 : Int) < cmpI C G) = false := by
    unfold cmpI
    split
    · rfl
    · rw [if_neg (by omega)]; rfl
  go_wp2_with fail
  refine S_region (by kernel_rfl) ?_
  replace HR := hid (HR.out.kept (Kept.refl [] _).drew)
  refine E_stage 0 12 [0, 1, 2, 3, 4, 5, 6, 7, 8, 9, 10, 11] (by kernel_rfl) M.drew ?_
  clear M
  simp only [List.filterMap_cons, List.filterMap_nil, List.getElem?_cons_zero, List.getElem?_cons_succ]
  ((with_reducible apply E_run); rfl; rfl; (intro w M; go_simp; (try go_ints); (try simp only [↓IntWalk.iteOmega]); (try with_reducible rfl)); simp only [Act.put, List.setIfInBounds_toArray, List.set_cons_zero, List.set_cons_succ])
  ((with_reducible apply E_run); rfl; rfl; (intro w M; go_simp; (try go_ints); (try simp only [↓IntWalk.iteOmega]); (try with_reducible rfl)); simp only [Act.put, List.setIfInBounds_toArray, List.set_cons_zero, List.set_cons_succ])
  ((with_reducible apply E_run); rfl; rfl; (intro w M; go_simp; (try go_ints); (try simp only [↓IntWalk.iteOmega]); (try with_reducible rfl)); simp only [Act.put, List.setIfInBounds_toArray, List.set_cons_zero, List.set_cons_succ])
  ((with_reducible apply E_no); rfl; simp only [Act.put, List.setIfInBounds_toArray, List.set_cons_zero, List.set_cons_succ])
  ((with_reducible apply E_no); rfl; simp only [Act.put, List.setIfInBounds_toArray, List.set_cons_zero, List.set_cons_succ])
  ((with_reducible apply E_no); rfl; simp only [Act.put, List.setIfInBounds_toArray, List.set_cons_zero, List.set_cons_succ])
  ((with_reducible apply E_no); rfl; simp only [Act.put, List.setIfInBounds_toArray, List.set_cons_zero, List.set_cons_succ])
  ((with_reducible apply E_no); rfl; simp only [Act.put, List.setIfInBounds_toArray, List.set_cons_zero, List.set_cons_succ])
  ((with_reducible apply E_no); rfl; simp only [Act.put, List.setIfInBounds_toArray, List.set_cons_zero, List.set_cons_succ])
  ((with_reducible apply E_no); rfl; simp only [Act.put, List.setIfInBounds_toArray, List.set_cons_zero, List.set_cons_succ])
  ((with_reducible apply E_run); rfl; rfl; (intro w M; go_simp; (try go_ints); (try simp only [↓IntWalk.iteOmega]); (try with_reducible rfl)); simp only [Act.put, List.setIfInBounds_toArray, List.set_cons_zero, List.set_cons_succ])
  ((with_reducible apply E_run); rfl; rfl; (intro w M; go_simp; (try go_ints); (try simp only [↓IntWalk.iteOmega]); (try with_reducible rfl)); simp only [Act.put, List.setIfInBounds_toArray, List.set_cons_zero, List.set_cons_succ])
  refine E_nil ?_
  intro w9 K M
  replace HR := hid (HR.out.kept K)
  clear K
  refine S_done ?_
  go_wp2_with fail
  refine S_region (by kernel_rfl) ?_
  replace HR := hid (HR.out.kept (Kept.refl [] _).drew)
  refine E_stage 0 13 [0, 1, 2, 3, 4, 5, 6, 7, 8, 9, 10, 11, 12] (by kernel_rfl) M.drew ?_
  clear M
  simp only [List.filterMap_cons, List.filterMap_nil, List.getElem?_cons_zero, List.getElem?_cons_succ]
  ((with_reducible apply E_run); rfl; rfl; (intro w M; go_simp; (try go_ints); (try simp only [↓IntWalk.iteOmega]); (try with_reducible rfl)); simp only [Act.put, List.setIfInBounds_toArray, List.set_cons_zero, List.set_cons_succ])
  ((with_reducible apply E_run); rfl; rfl; (intro w M; go_simp; (try go_ints); (try simp only [↓IntWalk.iteOmega]); (try with_reducible rfl)); simp only [Act.put, List.setIfInBounds_toArray, List.set_cons_zero, List.set_cons_succ])
  ((with_reducible apply E_run); rfl; rfl; (intro w M; go_simp; (try go_ints); (try simp only [↓IntWalk.iteOmega]); (try with_reducible rfl)); simp only [Act.put, List.setIfInBounds_toArray, List.set_cons_zero, List.set_cons_succ])
  ((with_reducible apply E_no); rfl; simp only [Act.put, List.setIfInBounds_toArray, List.set_cons_zero, List.set_cons_succ])
  ((with_reducible apply E_no); rfl; simp only [Act.put, List.setIfInBounds_toArray, List.set_cons_zero, List.set_cons_succ])
  ((with_reducible apply E_no); rfl; simp only [Act.put, List.setIfInBounds_toArray, List.set_cons_zero, List.set_cons_succ])
  ((with_reducible apply E_no); rfl; simp only [Act.put, List.setIfInBounds_toArray, List.set_cons_zero, List.set_cons_succ])
  ((with_reducible apply E_no); rfl; simp only [Act.put, List.setIfInBounds_toArray, List.set_cons_zero, List.set_cons_succ])
  ((with_reducible apply E_no); rfl; simp only [Act.put, List.setIfInBounds_toArray, List.set_cons_zero, List.set_cons_succ])
  ((with_reducible apply E_no); rfl; simp only [Act.put, List.setIfInBounds_toArray, List.set_cons_zero, List.set_cons_succ])
  ((with_reducible apply E_no); rfl; simp only [Act.put, List.setIfInBounds_toArray, List.set_cons_zero, List.set_cons_succ])
  ((with_reducible apply E_run); rfl; rfl; (intro w M; go_simp; (try go_ints); (try simp only [↓IntWalk.iteOmega]); (try with_reducible rfl)); simp only [Act.put, List.setIfInBounds_toArray, List.set_cons_zero, List.set_cons_succ])
  ((with_reducible apply E_run); rfl; rfl; (intro w M; go_simp; (try go_ints); (try simp only [↓IntWalk.iteOmega]); (try with_reducible rfl)); simp only [Act.put, List.setIfInBounds_toArray, List.set_cons_zero, List.set_cons_succ])
  refine E_nil ?_
  intro w9 K M
  replace HR := hid (HR.out.kept K)
  clear K
  refine S_done ?_
  go_wp2_with fail
  refine S_region (by kernel_rfl) ?_
  replace HR := hid (HR.out.kept (Kept.refl [] _).drew)
  refine E_stage 0 19 [0, 1, 2, 3, 4, 5, 6, 7, 8, 9, 10, 11, 12, 13, 14, 15, 16, 17, 18] (by kernel_rfl) M.drew ?_
  clear M
  simp only [List.filterMap_cons, List.filterMap_nil, List.getElem?_cons_zero, List.getElem?_cons_succ]
  ((with_reducible apply E_run); rfl; rfl; (intro w M; go_simp; (try go_ints); (try simp only [↓IntWalk.iteOmega]); (try with_reducible rfl)); simp only [Act.put, List.setIfInBounds_toArray, List.set_cons_zero, List.set_cons_succ])
  ((with_reducible apply E_run); rfl; rfl; (intro w M; go_simp; (try go_ints); (try simp only [↓IntWalk.iteOmega]); (try with_reducible rfl)); simp only [Act.put, List.setIfInBounds_toArray, List.set_cons_zero, List.set_cons_succ])
  ((with_reducible apply E_run); rfl; rfl; (intro w M; go_simp; (try go_ints); (try simp only [↓IntWalk.iteOmega]); (try with_reducible rfl)); simp only [Act.put, List.setIfInBounds_toArray, List.set_cons_zero, List.set_cons_succ])
  ((with_reducible apply E_no); rfl; simp only [Act.put, List.setIfInBounds_toArray, List.set_cons_zero, List.set_cons_succ])
  ((with_reducible apply E_no); rfl; simp only [Act.put, List.setIfInBounds_toArray, List.set_cons_zero, List.set_cons_succ])
  ((with_reducible apply E_no); rfl; simp only [Act.put, List.setIfInBounds_toArray, List.set_cons_zero, List.set_cons_succ])
  ((with_reducible apply E_no); rfl; simp only [Act.put, List.setIfInBounds_toArray, List.set_cons_zero, List.set_cons_succ])
  ((with_reducible apply E_run); rfl; rfl; (intro w M; go_simp; (try go_ints); (try simp only [↓IntWalk.iteOmega]); (try with_reducible rfl)); simp only [Act.put, List.setIfInBounds_toArray, List.set_cons_zero, List.set_cons_succ])
  ((with_reducible apply E_run); rfl; rfl; (intro w M; go_simp; (try go_ints); (try simp only [↓IntWalk.iteOmega]); (try with_reducible rfl)); simp only [Act.put, List.setIfInBounds_toArray, List.set_cons_zero, List.set_cons_succ])
  ((with_reducible apply E_no); rfl; simp only [Act.put, List.setIfInBounds_toArray, List.set_cons_zero, List.set_cons_succ])
  ((with_reducible apply E_no); rfl; simp only [Act.put, List.setIfInBounds_toArray, List.set_cons_zero, List.set_cons_succ])
  ((with_reducible apply E_no); rfl; simp only [Act.put, List.setIfInBounds_toArray, List.set_cons_zero, List.set_cons_succ])
  ((with_reducible apply E_no); rfl; simp only [Act.put, List.setIfInBounds_toArray, List.set_cons_zero, List.set_cons_succ])
  ((with_reducible apply E_no); rfl; simp only [Act.put, List.setIfInBounds_toArray, List.set_cons_zero, List.set_cons_succ])
  ((with_reducible apply E_no); rfl; simp only [Act.put, List.setIfInBounds_toArray, List.set_cons_zero, List.set_cons_succ])
  ((with_reducible apply E_no); rfl; simp only [Act.put, List.setIfInBounds_toArray, List.set_cons_zero, List.set_cons_succ])
  ((with_reducible apply E_no); rfl; simp only [Act.put, List.setIfInBounds_toArray, List.set_cons_zero, List.set_cons_succ])
  ((with_reducible apply E_run); rfl; rfl; (intro w M; go_simp; (try go_ints); (try simp only [↓IntWalk.iteOmega]); (try with_reducible rfl)); simp only [Act.put, List.setIfInBounds_toArray, List.set_cons_zero, List.set_cons_succ])
  ((with_reducible apply E_run); rfl; rfl; (intro w M; go_simp; (try go_ints); (try simp only [↓IntWalk.iteOmega]); (try with_reducible rfl)); simp only [Act.put, List.setIfInBounds_toArray, List.set_cons_zero, List.set_cons_succ])
  refine E_nil ?_
  intro w9 K M
  replace HR := hid (HR.out.kept K)
  clear K
  refine S_done ?_
  go_wp2_with fail
  go_ret2
  exact ⟨_, rfl, HR.out, M.kept⟩

set_option maxHeartbeats 4000000 in
set_option maxRecDepth 100000 in
theorem refusalD_pop (st : Value) (fb q m G C : Nat) (fs0 : Array Value) (cv mc : Value) (ns : List Nat) (w : World) (hF : FrameQ w fb q fs0 m G ns mc) (hf : FrD fs0 q cv) (hn : 1 ≤ ns.length) (hn2 : ns.length ≤ 40) (hCG : C ≤ G)
    (hC : ∀ w', Kept [] w w' → Calls Salg.prog 183 #[st, .pointer (some ⟨fb, q, none⟩), .int .u8 80] w' fun e w'' => ∃ r, e = .returned r ∧ NumV w'' r C ∧ Kept [] w' w'') :
    Calls Salg.prog 111 #[st, .pointer (some ⟨fb, q, none⟩), .int .u8 80] w fun e w' => ∃ r, e = .returned (.tuple #[.int .u8 0, r]) ∧ NumV w' r C ∧ Kept [] w w' := by
  have M := Mem.start w []
  obtain ⟨fs, pv, gv, sv, xs, hr, hsz, hfs, h3, hpv, h4, hgv, h8, hsv, hxs, hmv⟩ := hF
  have hxl := hxs.1
  obtain ⟨p, n, cp, rfl⟩ := rowV_slice hsv
  obtain rfl : n = xs.length := by
    rcases hsv with ⟨e, e2⟩ | ⟨g, cap, cur, e, _⟩
    · cases e; subst e2; rfl
    · cases e; rfl
  have h2 := (hfs (q + 2) (by omega) (by omega) (by omega) (by omega)).trans hf.f2
  have HG := hid hgv
  have HC := hid hC
  have d1 : decide ((xs.length : Int) < (1 : Int)) = false := by simp <;> omega
  have d2 : decide ((64 : Int) < (xs.length : Int) - (1 : Int) + (0 : Int)) = false := by simp; omega
  have d3 : decide ((64 : Int) < (xs.length : Int) - (1 : Int)) = false := by simp; omega
  have d4 : decide ((64 : Int) < (xs.length : Int)) = false := by simp; omega
  have d5 : decide ((xs.length : Int) < 0) = false := by simp
  clear hgv hC hfs hsv hxs hpv hf hsz hmv h3
  go_enter Salg.func111, Salg.ntmps111
  go_wp2_with fail
  refine (arity_pop _).mono ?_
  rintro e w1 ⟨rfl, hw⟩
  replace hw := hw.symm
  subst hw
  go_wp2_with (first
    | ((with_reducible apply W_loadCell); rfl; exact M.kept.row hr (by simp); exact h8; exact Salg.underlying140; rfl; simp only [Act.put, List.setIfInBounds_toArray, List.set_cons_zero, List.set_cons_succ])
    | ((with_reducible apply W_loadCell); rfl; exact M.kept.row hr (by simp); exact h2; exact Salg.underlying4; rfl; simp only [Act.put, List.setIfInBounds_toArray, List.set_cons_zero, List.set_cons_succ]))
  refine S_region (by kernel_rfl) ?_
  refine E_stage 0 19 [0, 1, 2, 3, 5, 8, 9, 10, 11, 12, 13, 4, 6, 7, 14, 15, 16, 17, 18] (by kernel_rfl) M.drew ?_
  clear M
  simp only [List.filterMap_cons, List.filterMap_nil, List.getElem?_cons_zero, List.getElem?_cons_succ]
  ((with_reducible apply E_run); rfl; rfl; (intro w M; go_simp; (try go_ints); (try simp only [↓IntWalk.iteOmega]); (try with_reducible rfl)); simp only [Act.put, List.setIfInBounds_toArray, List.set_cons_zero, List.set_cons_succ])
  ((with_reducible apply E_run); rfl; rfl; (intro w M; go_simp; (try go_ints); (try simp only [↓IntWalk.iteOmega]); (try with_reducible rfl)); simp only [Act.put, List.setIfInBounds_toArray, List.set_cons_zero, List.set_cons_succ])
  ((with_reducible apply E_run); rfl; rfl; (intro w M; go_simp; (try go_ints); (try simp only [↓IntWalk.iteOmega]); (try with_reducible rfl)); simp only [Act.put, List.setIfInBounds_toArray, List.set_cons_zero, List.set_cons_succ])
  ((with_reducible apply E_no); rfl; simp only [Act.put, List.setIfInBounds_toArray, List.set_cons_zero, List.set_cons_succ])
  ((with_reducible apply E_no); rfl; simp only [Act.put, List.setIfInBounds_toArray, List.set_cons_zero, List.set_cons_succ])
  ((with_reducible apply E_no); rfl; simp only [Act.put, List.setIfInBounds_toArray, List.set_cons_zero, List.set_cons_succ])
  ((with_reducible apply E_no); rfl; simp only [Act.put, List.setIfInBounds_toArray, List.set_cons_zero, List.set_cons_succ])
  ((with_reducible apply E_no); rfl; simp only [Act.put, List.setIfInBounds_toArray, List.set_cons_zero, List.set_cons_succ])
  ((with_reducible apply E_no); rfl; simp only [Act.put, List.setIfInBounds_toArray, List.set_cons_zero, List.set_cons_succ])
  ((with_reducible apply E_no); rfl; simp only [Act.put, List.setIfInBounds_toArray, List.set_cons_zero, List.set_cons_succ])
  ((with_reducible apply E_no); rfl; simp only [Act.put, List.setIfInBounds_toArray, List.set_cons_zero, List.set_cons_succ])
  ((with_reducible apply E_no); rfl; simp only [Act.put, List.setIfInBounds_toArray, List.set_cons_zero, List.set_cons_succ])
  ((with_reducible apply E_no); rfl; simp only [Act.put, List.setIfInBounds_toArray, List.set_cons_zero, List.set_cons_succ])
  ((with_reducible apply E_no); rfl; simp only [Act.put, List.setIfInBounds_toArray, List.set_cons_zero, List.set_cons_succ])
  ((with_reducible apply E_no); rfl; simp only [Act.put, List.setIfInBounds_toArray, List.set_cons_zero, List.set_cons_succ])
  ((with_reducible apply E_no); rfl; simp only [Act.put, List.setIfInBounds_toArray, List.set_cons_zero, List.set_cons_succ])
  ((with_reducible apply E_no); rfl; simp only [Act.put, List.setIfInBounds_toArray, List.set_cons_zero, List.set_cons_succ])
  ((with_reducible apply E_run); rfl; rfl; (intro w M; go_simp; (try go_ints); (try simp only [↓IntWalk.iteOmega]); (try with_reducible rfl)); simp only [Act.put, List.setIfInBounds_toArray, List.set_cons_zero, List.set_cons_succ])
  ((with_reducible apply E_run); rfl; rfl; (intro w M; go_simp; (try go_ints); (try simp only [↓IntWalk.iteOmega]); (try with_reducible rfl)); simp only [Act.put, List.setIfInBounds_toArray, List.set_cons_zero, List.set_cons_succ])
  refine E_nil ?_
  intro w9 K M
  clear K
  refine S_done ?_
  go_wp2_with fail
  refine (HC.out _ M.kept).mono ?_
  rintro e w2 ⟨r, rfl, xHR, K⟩
  have HR := hid xHR
  replace M := M.call K
  clear K xHR
  go_wp2_with ((with_reducible apply W_loadCell); rfl; exact M.kept.row hr (by simp); exact h4; exact Salg.underlying89; rfl; simp only [Act.put, List.setIfInBounds_toArray, List.set_cons_zero, List.set_cons_succ])
  refine (cmp_num r gv C G _ HR.out (HG.out.kept M.kept)).mono ?_
  rintro e w3 ⟨rfl, K⟩
  replace HR := hid (HR.out.kept K)
  replace M := M.call K
  clear K
  have hz : decide ((0 : Int) < cmpI C G) = false := by
    unfold cmpI
    split
    · rfl
    · rw [if_neg (by omega)]; rfl
  go_wp2_with fail
  refine S_region (by kernel_rfl) ?_
  replace HR := hid (HR.out.kept (Kept.refl [] _).drew)
  refine E_stage 0 12 [0, 1, 2, 3, 4, 5, 6, 7, 8, 9, 10, 11] (by kernel_rfl) M.drew ?_
  clear M
  simp only [List.filterMap_cons, List.filterMap_nil, List.getElem?_cons_zero, List.getElem?_cons_succ]
  ((with_reducible apply E_run); rfl; rfl; (intro w M; go_simp; (try go_ints); (try simp only [↓IntWalk.iteOmega]); (try with_reducible rfl)); simp only [Act.put, List.setIfInBounds_toArray, List.set_cons_zero, List.set_cons_succ])
  ((with_reducible apply E_run); rfl; rfl; (intro w M; go_simp; (try go_ints); (try simp only [↓IntWalk.iteOmega]); (try with_reducible rfl)); simp only [Act.put, List.setIfInBounds_toArray, List.set_cons_zero, List.set_cons_succ])
  ((with_reducible apply E_run); rfl; rfl; (intro w M; go_simp; (try go_ints); (try simp only [↓IntWalk.iteOmega]); (try with_reducible rfl)); simp only [Act.put, List.setIfInBounds_toArray, List.set_cons_zero, List.set_cons_succ])
  ((with_reducible apply E_no); rfl; simp only [Act.put, List.setIfInBounds_toArray, List.set_cons_zero, List.set_cons_succ])
  ((with_reducible apply E_no); rfl; simp only [Act.put, List.setIfInBounds_toArray, List.set_cons_zero, List.set_cons_succ])
  ((with_reducible apply E_no); rfl; simp only [Act.put, List.setIfInBounds_toArray, List.set_cons_zero, List.set_cons_succ])
  ((with_reducible apply E_no); rfl; simp only [Act.put, List.setIfInBounds_toArray, List.set_cons_zero, List.set_cons_succ])
  ((with_reducible apply E_no); rfl; simp only [Act.put, List.setIfInBounds_toArray, List.set_cons_zero, List.set_cons_succ])
  ((with_reducible apply E_no); rfl; simp only [Act.put, List.setIfInBounds_toArray, List.set_cons_zero, List.set_cons_succ])
  ((with_reducible apply E_no); rfl; simp only [Act.put, List.setIfInBounds_toArray, List.set_cons_zero, List.set_cons_succ])
  ((with_reducible apply E_run); rfl; rfl; (intro w M; go_simp; (try go_ints); (try simp only [↓IntWalk.iteOmega]); (try with_reducible rfl)); simp only [Act.put, List.setIfInBounds_toArray, List.set_cons_zero, List.set_cons_succ])
  ((with_reducible apply E_run); rfl; rfl; (intro w M; go_simp; (try go_ints); (try simp only [↓IntWalk.iteOmega]); (try with_reducible rfl)); simp only [Act.put, List.setIfInBounds_toArray, List.set_cons_zero, List.set_cons_succ])
  refine E_nil ?_
  intro w9 K M
  replace HR := hid (HR.out.kept K)
  clear K
  refine S_done ?_
  go_wp2_with fail
  refine S_region (by kernel_rfl) ?_
  replace HR := hid (HR.out.kept (Kept.refl [] _).drew)
  refine E_stage 0 13 [0, 1, 2, 3, 4, 5, 6, 7, 8, 9, 10, 11, 12] (by kernel_rfl) M.drew ?_
  clear M
  simp only [List.filterMap_cons, List.filterMap_nil, List.getElem?_cons_zero, List.getElem?_cons_succ]
  ((with_reducible apply E_run); rfl; rfl; (intro w M; go_simp; (try go_ints); (try simp only [↓IntWalk.iteOmega]); (try with_reducible rfl)); simp only [Act.put, List.setIfInBounds_toArray, List.set_cons_zero, List.set_cons_succ])
  ((with_reducible apply E_run); rfl; rfl; (intro w M; go_simp; (try go_ints); (try simp only [↓IntWalk.iteOmega]); (try with_reducible rfl)); simp only [Act.put, List.setIfInBounds_toArray, List.set_cons_zero, List.set_cons_succ])
  ((with_reducible apply E_run); rfl; rfl; (intro w M; go_simp; (try go_ints); (try simp only [↓IntWalk.iteOmega]); (try with_reducible rfl)); simp only [Act.put, List.setIfInBounds_toArray, List.set_cons_zero, List.set_cons_succ])
  ((with_reducible apply E_no); rfl; simp only [Act.put, List.setIfInBounds_toArray, List.set_cons_zero, List.set_cons_succ])
  ((with_reducible apply E_no); rfl; simp only [Act.put, List.setIfInBounds_toArray, List.set_cons_zero, List.set_cons_succ])
  ((with_reducible apply E_no); rfl; simp only [Act.put, List.setIfInBounds_toArray, List.set_cons_zero, List.set_cons_succ])
  ((with_reducible apply E_no); rfl; simp only [Act.put, List.setIfInBounds_toArray, List.set_cons_zero, List.set_cons_succ])
  ((with_reducible apply E_no); rfl; simp only [Act.put, List.setIfInBounds_toArray, List.set_cons_zero, List.set_cons_succ])
  ((with_reducible apply E_no); rfl; simp only [Act.put, List.setIfInBounds_toArray, List.set_cons_zero, List.set_cons_succ])
  ((with_reducible apply E_no); rfl; simp only [Act.put, List.setIfInBounds_toArray, List.set_cons_zero, List.set_cons_succ])
  ((with_reducible apply E_no); rfl; simp only [Act.put, List.setIfInBounds_toArray, List.set_cons_zero, List.set_cons_succ])
  ((with_reducible apply E_run); rfl; rfl; (intro w M; go_simp; (try go_ints); (try simp only [↓IntWalk.iteOmega]); (try with_reducible rfl)); simp only [Act.put, List.setIfInBounds_toArray, List.set_cons_zero, List.set_cons_succ])
  ((with_reducible apply E_run); rfl; rfl; (intro w M; go_simp; (try go_ints); (try simp only [↓IntWalk.iteOmega]); (try with_reducible rfl)); simp only [Act.put, List.setIfInBounds_toArray, List.set_cons_zero, List.set_cons_succ])
  refine E_nil ?_
  intro w9 K M
  replace HR := hid (HR.out.kept K)
  clear K
  refine S_done ?_
  go_wp2_with fail
  refine S_region (by kernel_rfl) ?_
  replace HR := hid (HR.out.kept (Kept.refl [] _).drew)
  refine E_stage 0 19 [0, 1, 2, 3, 4, 5, 6, 7, 8, 9, 10, 11, 12, 13, 14, 15, 16, 17, 18] (by kernel_rfl) M.drew ?_
  clear M
  simp only [List.filterMap_cons, List.filterMap_nil, List.getElem?_cons_zero, List.getElem?_cons_succ]
  ((with_reducible apply E_run); rfl; rfl; (intro w M; go_simp; (try go_ints); (try simp only [↓IntWalk.iteOmega]); (try with_reducible rfl)); simp only [Act.put, List.setIfInBounds_toArray, List.set_cons_zero, List.set_cons_succ])
  ((with_reducible apply E_run); rfl; rfl; (intro w M; go_simp; (try go_ints); (try simp only [↓IntWalk.iteOmega]); (try with_reducible rfl)); simp only [Act.put, List.setIfInBounds_toArray, List.set_cons_zero, List.set_cons_succ])
  ((with_reducible apply E_run); rfl; rfl; (intro w M; go_simp; (try go_ints); (try simp only [↓IntWalk.iteOmega]); (try with_reducible rfl)); simp only [Act.put, List.setIfInBounds_toArray, List.set_cons_zero, List.set_cons_succ])
  ((with_reducible apply E_no); rfl; simp only [Act.put, List.setIfInBounds_toArray, List.set_cons_zero, List.set_cons_succ])
  ((with_reducible apply E_no); rfl; simp only [Act.put, List.setIfInBounds_toArray, List.set_cons_zero, List.set_cons_succ])
  ((with_reducible apply E_no); rfl; simp only [Act.put, List.setIfInBounds_toArray, List.set_cons_zero, List.set_cons_succ])
  ((with_reducible apply E_no); rfl; simp only [Act.put, List.setIfInBounds_toArray, List.set_cons_zero, List.set_cons_succ])
  ((with_reducible apply E_run); rfl; rfl; (intro w M; go_simp; (try go_ints); (try simp only [↓IntWalk.iteOmega]); (try with_reducible rfl)); simp only [Act.put, List.setIfInBounds_toArray, List.set_cons_zero, List.set_cons_succ])
  ((with_reducible apply E_run); rfl; rfl; (intro w M; go_simp; (try go_ints); (try simp only [↓IntWalk.iteOmega]); (try with_reducible rfl)); simp only [Act.put, List.setIfInBounds_toArray, List.set_cons_zero, List.set_cons_succ])
  ((with_reducible apply E_no); rfl; simp only [Act.put, List.setIfInBounds_toArray, List.set_cons_zero, List.set_cons_succ])
  ((with_reducible apply E_no); rfl; simp only [Act.put, List.setIfInBounds_toArray, List.set_cons_zero, List.set_cons_succ])
  ((with_reducible apply E_no); rfl; simp only [Act.put, List.setIfInBounds_toArray, List.set_cons_zero, List.set_cons_succ])
  ((with_reducible apply E_no); rfl; simp only [Act.put, List.setIfInBounds_toArray, List.set_cons_zero, List.set_cons_succ])
  ((with_reducible apply E_no); rfl; simp only [Act.put, List.setIfInBounds_toArray, List.set_cons_zero, List.set_cons_succ])
  ((with_reducible apply E_no); rfl; simp only [Act.put, List.setIfInBounds_toArray, List.set_cons_zero, List.set_cons_succ])
  ((with_reducible apply E_no); rfl; simp only [Act.put, List.setIfInBounds_toArray, List.set_cons_zero, List.set_cons_succ])
  ((with_reducible apply E_no); rfl; simp only [Act.put, List.setIfInBounds_toArray, List.set_cons_zero, List.set_cons_succ])
  ((with_reducible apply E_run); rfl; rfl; (intro w M; go_simp; (try go_ints); (try simp only [↓IntWalk.iteOmega]); (try with_reducible rfl)); simp only [Act.put, List.setIfInBounds_toArray, List.set_cons_zero, List.set_cons_succ])
  ((with_reducible apply E_run); rfl; rfl; (intro w M; go_simp; (try go_ints); (try simp only [↓IntWalk.iteOmega]); (try with_reducible rfl)); simp only [Act.put, List.setIfInBounds_toArray, List.set_cons_zero, List.set_cons_succ])
  refine E_nil ?_
  intro w9 K M
  replace HR := hid (HR.out.kept K)
  clear K
  refine S_done ?_
  go_wp2_with fail
  go_ret2
  exact ⟨_, rfl, HR.out, M.kept⟩

set_option maxHeartbeats 4000000 in
set_option maxRecDepth 100000 in
theorem refusalD_address (st : Value) (fb q m G C : Nat) (fs0 : Array Value) (cv mc : Value) (ns : List Nat) (w : World) (hF : FrameQ w fb q fs0 m G ns mc) (hf : FrD fs0 q cv) (hn : 0 ≤ ns.length) (hn2 : ns.length ≤ 40) (hCG : C ≤ G)
    (hC : ∀ w', Kept [] w w' → Calls Salg.prog 183 #[st, .pointer (some ⟨fb, q, none⟩), .int .u8 48] w' fun e w'' => ∃ r, e = .returned r ∧ NumV w'' r C ∧ Kept [] w' w'') :
    Calls Salg.prog 111 #[st, .pointer (some ⟨fb, q, none⟩), .int .u8 48] w fun e w' => ∃ r, e = .returned (.tuple #[.int .u8 0, r]) ∧ NumV w' r C ∧ Kept [] w w' := by
  have M := Mem.start w []
  obtain ⟨fs, pv, gv, sv, xs, hr, hsz, hfs, h3, hpv, h4, hgv, h8, hsv, hxs, hmv⟩ := hF
  have hxl := hxs.1
  obtain ⟨p, n, cp, rfl⟩ := rowV_slice hsv
  obtain rfl : n = xs.length := by
    rcases hsv with ⟨e, e2⟩ | ⟨g, cap, cur, e, _⟩
    · cases e; subst e2; rfl
    · cases e; rfl
  have h2 := (hfs (q + 2) (by omega) (by omega) (by omega) (by omega)).trans hf.f2
  have HG := hid hgv
  have HC := hid hC
  have d1 : decide ((xs.length : Int) < (0 : Int)) = false := by simp <;> omega
  have d2 : decide ((64 : Int) < (xs.length : Int) - (0 : Int) + (1 : Int)) = false := by simp; omega
  have d3 : decide ((64 : Int) < (xs.length : Int) - (0 : Int)) = false := by simp; omega
  have d4 : decide ((64 : Int) < (xs.length : Int)) = false := by simp; omega
  have d5 : decide ((xs.length : Int) < 0) = false := by simp
  clear hgv hC hfs hsv hxs hpv hf hsz hmv h3
  go_enter Salg.func111, Salg.ntmps111
  go_wp2_with fail
  refine (arity_address _).mono ?_
  rintro e w1 ⟨rfl, hw⟩
  replace hw := hw.symm
  subst hw
  go_wp2_with (first
    | ((with_reducible apply W_loadCell); rfl; exact M.kept.row hr (by simp); exact h8; exact Salg.underlying140; rfl; simp only [Act.put, List.setIfInBounds_toArray, List.set_cons_zero, List.set_cons_succ])
    | ((with_reducible apply W_loadCell); rfl; exact M.kept.row hr (by simp); exact h2; exact Salg.underlying4; rfl; simp only [Act.put, List.setIfInBounds_toArray, List.set_cons_zero, List.set_cons_succ]))
  refine S_region (by kernel_rfl) ?_
  refine E_stage 0 19 [0, 1, 2, 3, 5, 8, 9, 10, 11, 12, 13, 4, 6, 7, 14, 15, 16, 17, 18] (by kernel_rfl) M.drew ?_
  clear M
  simp only [List.filterMap_cons, List.filterMap_nil, List.getElem?_cons_zero, List.getElem?_cons_succ]
  ((with_reducible apply E_run); rfl; rfl; (intro w M; go_simp; (try go_ints); (try simp only [↓IntWalk.iteOmega]); (try with_reducible rfl)); simp only [Act.put, List.setIfInBounds_toArray, List.set_cons_zero, List.set_cons_succ])
  ((with_reducible apply E_run); rfl; rfl; (intro w M; go_simp; (try go_ints); (try simp only [↓IntWalk.iteOmega]); (try with_reducible rfl)); simp only [Act.put, List.setIfInBounds_toArray, List.set_cons_zero, List.set_cons_succ])
  ((with_reducible apply E_run); rfl; rfl; (intro w M; go_simp; (try go_ints); (try simp only [↓IntWalk.iteOmega]); (try with_reducible rfl)); simp only [Act.put, List.setIfInBounds_toArray, List.set_cons_zero, List.set_cons_succ])
  ((with_reducible apply E_no); rfl; simp only [Act.put, List.setIfInBounds_toArray, List.set_cons_zero, List.set_cons_succ])
  ((with_reducible apply E_no); rfl; simp only [Act.put, List.setIfInBounds_toArray, List.set_cons_zero, List.set_cons_succ])
  ((with_reducible apply E_no); rfl; simp only [Act.put, List.setIfInBounds_toArray, List.set_cons_zero, List.set_cons_succ])
  ((with_reducible apply E_no); rfl; simp only [Act.put, List.setIfInBounds_toArray, List.set_cons_zero, List.set_cons_succ])
  ((with_reducible apply E_no); rfl; simp only [Act.put, List.setIfInBounds_toArray, List.set_cons_zero, List.set_cons_succ])
  ((with_reducible apply E_no); rfl; simp only [Act.put, List.setIfInBounds_toArray, List.set_cons_zero, List.set_cons_succ])
  ((with_reducible apply E_no); rfl; simp only [Act.put, List.setIfInBounds_toArray, List.set_cons_zero, List.set_cons_succ])
  ((with_reducible apply E_no); rfl; simp only [Act.put, List.setIfInBounds_toArray, List.set_cons_zero, List.set_cons_succ])
  ((with_reducible apply E_no); rfl; simp only [Act.put, List.setIfInBounds_toArray, List.set_cons_zero, List.set_cons_succ])
  ((with_reducible apply E_no); rfl; simp only [Act.put, List.setIfInBounds_toArray, List.set_cons_zero, List.set_cons_succ])
  ((with_reducible apply E_no); rfl; simp only [Act.put, List.setIfInBounds_toArray, List.set_cons_zero, List.set_cons_succ])
  ((with_reducible apply E_no); rfl; simp only [Act.put, List.setIfInBounds_toArray, List.set_cons_zero, List.set_cons_succ])
  ((with_reducible apply E_no); rfl; simp only [Act.put, List.setIfInBounds_toArray, List.set_cons_zero, List.set_cons_succ])
  ((with_reducible apply E_no); rfl; simp only [Act.put, List.setIfInBounds_toArray, List.set_cons_zero, List.set_cons_succ])
  ((with_reducible apply E_run); rfl; rfl; (intro w M; go_simp; (try go_ints); (try simp only [↓IntWalk.iteOmega]); (try with_reducible rfl)); simp only [Act.put, List.setIfInBounds_toArray, List.set_cons_zero, List.set_cons_succ])
  ((with_reducible apply E_run); rfl; rfl; (intro w M; go_simp; (try go_ints); (try simp only [↓IntWalk.iteOmega]); (try with_reducible rfl)); simp only [Act.put, List.setIfInBounds_toArray, List.set_cons_zero, List.set_cons_succ])
  refine E_nil ?_
  intro w9 K M
  clear K
  refine S_done ?_
  go_wp2_with fail
  refine (HC.out _ M.kept).mono ?_
  rintro e w2 ⟨r, rfl, xHR, K⟩
  have HR := hid xHR
  replace M := M.call K
  clear K xHR
  go_wp2_with ((with_reducible apply W_loadCell); rfl; exact M.kept.row hr (by simp); exact h4; exact Salg.underlying89; rfl; simp only [Act.put, List.setIfInBounds_toArray, List.set_cons_zero, List.set_cons_succ])
  refine (cmp_num r gv C G _ HR.out (HG.out.kept M.kept)).mono ?_
  rintro e w3 ⟨rfl, K⟩
  replace HR := hid (HR.out.kept K)
  replace M := M.call K
  clear K
  have hz : decide ((0 : Int) < cmpI C G) = false := by
    unfold cmpI
    split
    · rfl
    · rw [if_neg (by omega)]; rfl
  go_wp2_with fail
  refine S_region (by kernel_rfl) ?_
  replace HR := hid (HR.out.kept (Kept.refl [] _).drew)
  refine E_stage 0 12 [0, 1, 2, 3, 4, 5, 6, 7, 8, 9, 10, 11] (by kernel_rfl) M.drew ?_
  clear M
  simp only [List.filterMap_cons, List.filterMap_nil, List.getElem?_cons_zero, List.getElem?_cons_succ]
  ((with_reducible apply E_run); rfl; rfl; (intro w M; go_simp; (try go_ints); (try simp only [↓IntWalk.iteOmega]); (try with_reducible rfl)); simp only [Act.put, List.setIfInBounds_toArray, List.set_cons_zero, List.set_cons_succ])
  ((with_reducible apply E_run); rfl; rfl; (intro w M; go_simp; (try go_ints); (try simp only [↓IntWalk.iteOmega]); (try with_reducible rfl)); simp only [Act.put, List.setIfInBounds_toArray, List.set_cons_zero, List.set_cons_succ])
  ((with_reducible apply E_run); rfl; rfl; (intro w M; go_simp; (try go_ints); (try simp only [↓IntWalk.iteOmega]); (try with_reducible rfl)); simp only [Act.put, List.setIfInBounds_toArray, List.set_cons_zero, List.set_cons_succ])
  ((with_reducible apply E_no); rfl; simp only [Act.put, List.setIfInBounds_toArray, List.set_cons_zero, List.set_cons_succ])
  ((with_reducible apply E_no); rfl; simp only [Act.put, List.setIfInBounds_toArray, List.set_cons_zero, List.set_cons_succ])
  ((with_reducible apply E_no); rfl; simp only [Act.put, List.setIfInBounds_toArray, List.set_cons_zero, List.set_cons_succ])
  ((with_reducible apply E_no); rfl; simp only [Act.put, List.setIfInBounds_toArray, List.set_cons_zero, List.set_cons_succ])
  ((with_reducible apply E_no); rfl; simp only [Act.put, List.setIfInBounds_toArray, List.set_cons_zero, List.set_cons_succ])
  ((with_reducible apply E_no); rfl; simp only [Act.put, List.setIfInBounds_toArray, List.set_cons_zero, List.set_cons_succ])
  ((with_reducible apply E_no); rfl; simp only [Act.put, List.setIfInBounds_toArray, List.set_cons_zero, List.set_cons_succ])
  ((with_reducible apply E_run); rfl; rfl; (intro w M; go_simp; (try go_ints); (try simp only [↓IntWalk.iteOmega]); (try with_reducible rfl)); simp only [Act.put, List.setIfInBounds_toArray, List.set_cons_zero, List.set_cons_succ])
  ((with_reducible apply E_run); rfl; rfl; (intro w M; go_simp; (try go_ints); (try simp only [↓IntWalk.iteOmega]); (try with_reducible rfl)); simp only [Act.put, List.setIfInBounds_toArray, List.set_cons_zero, List.set_cons_succ])
  refine E_nil ?_
  intro w9 K M
  replace HR := hid (HR.out.kept K)
  clear K
  refine S_done ?_
  go_wp2_with fail
  refine S_region (by kernel_rfl) ?_
  replace HR := hid (HR.out.kept (Kept.refl [] _).drew)
  refine E_stage 0 13 [0, 1, 2, 3, 4, 5, 6, 7, 8, 9, 10, 11, 12] (by kernel_rfl) M.drew ?_
  clear M
  simp only [List.filterMap_cons, List.filterMap_nil, List.getElem?_cons_zero, List.getElem?_cons_succ]
  ((with_reducible apply E_run); rfl; rfl; (intro w M; go_simp; (try go_ints); (try simp only [↓IntWalk.iteOmega]); (try with_reducible rfl)); simp only [Act.put, List.setIfInBounds_toArray, List.set_cons_zero, List.set_cons_succ])
  ((with_reducible apply E_run); rfl; rfl; (intro w M; go_simp; (try go_ints); (try simp only [↓IntWalk.iteOmega]); (try with_reducible rfl)); simp only [Act.put, List.setIfInBounds_toArray, List.set_cons_zero, List.set_cons_succ])
  ((with_reducible apply E_run); rfl; rfl; (intro w M; go_simp; (try go_ints); (try simp only [↓IntWalk.iteOmega]); (try with_reducible rfl)); simp only [Act.put, List.setIfInBounds_toArray, List.set_cons_zero, List.set_cons_succ])
  ((with_reducible apply E_no); rfl; simp only [Act.put, List.setIfInBounds_toArray, List.set_cons_zero, List.set_cons_succ])
  ((with_reducible apply E_no); rfl; simp only [Act.put, List.setIfInBounds_toArray, List.set_cons_zero, List.set_cons_succ])
  ((with_reducible apply E_no); rfl; simp only [Act.put, List.setIfInBounds_toArray, List.set_cons_zero, List.set_cons_succ])
  ((with_reducible apply E_no); rfl; simp only [Act.put, List.setIfInBounds_toArray, List.set_cons_zero, List.set_cons_succ])
  ((with_reducible apply E_no); rfl; simp only [Act.put, List.setIfInBounds_toArray, List.set_cons_zero, List.set_cons_succ])
  ((with_reducible apply E_no); rfl; simp only [Act.put, List.setIfInBounds_toArray, List.set_cons_zero, List.set_cons_succ])
  ((with_reducible apply E_no); rfl; simp only [Act.put, List.setIfInBounds_toArray, List.set_cons_zero, List.set_cons_succ])
  ((with_reducible apply E_no); rfl; simp only [Act.put, List.setIfInBounds_toArray, List.set_cons_zero, List.set_cons_succ])
  ((with_reducible apply E_run); rfl; rfl; (intro w M; go_simp; (try go_ints); (try simp only [↓IntWalk.iteOmega]); (try with_reducible rfl)); simp only [Act.put, List.setIfInBounds_toArray, List.set_cons_zero, List.set_cons_succ])
  ((with_reducible apply E_run); rfl; rfl; (intro w M; go_simp; (try go_ints); (try simp only [↓IntWalk.iteOmega]); (try with_reducible rfl)); simp only [Act.put, List.setIfInBounds_toArray, List.set_cons_zero, List.set_cons_succ])
  refine E_nil ?_
  intro w9 K M
  replace HR := hid (HR.out.kept K)
  clear K
  refine S_done ?_
  go_wp2_with fail
  refine S_region (by kernel_rfl) ?_
  replace HR := hid (HR.out.kept (Kept.refl [] _).drew)
  refine E_stage 0 19 [0, 1, 2, 3, 4, 5, 6, 7, 8, 9, 10, 11, 12, 13, 14, 15, 16, 17, 18] (by kernel_rfl) M.drew ?_
  clear M
  simp only [List.filterMap_cons, List.filterMap_nil, List.getElem?_cons_zero, List.getElem?_cons_succ]
  ((with_reducible apply E_run); rfl; rfl; (intro w M; go_simp; (try go_ints); (try simp only [↓IntWalk.iteOmega]); (try with_reducible rfl)); simp only [Act.put, List.setIfInBounds_toArray, List.set_cons_zero, List.set_cons_succ])
  ((with_reducible apply E_run); rfl; rfl; (intro w M; go_simp; (try go_ints); (try simp only [↓IntWalk.iteOmega]); (try with_reducible rfl)); simp only [Act.put, List.setIfInBounds_toArray, List.set_cons_zero, List.set_cons_succ])
  ((with_reducible apply E_run); rfl; rfl; (intro w M; go_simp; (try go_ints); (try simp only [↓IntWalk.iteOmega]); (try with_reducible rfl)); simp only [Act.put, List.setIfInBounds_toArray, List.set_cons_zero, List.set_cons_succ])
  ((with_reducible apply E_no); rfl; simp only [Act.put, List.setIfInBounds_toArray, List.set_cons_zero, List.set_cons_succ])
  ((with_reducible apply E_no); rfl; simp only [Act.put, List.setIfInBounds_toArray, List.set_cons_zero, List.set_cons_succ])
  ((with_reducible apply E_no); rfl; simp only [Act.put, List.setIfInBounds_toArray, List.set_cons_zero, List.set_cons_succ])
  ((with_reducible apply E_no); rfl; simp only [Act.put, List.setIfInBounds_toArray, List.set_cons_zero, List.set_cons_succ])
  ((with_reducible apply E_run); rfl; rfl; (intro w M; go_simp; (try go_ints); (try simp only [↓IntWalk.iteOmega]); (try with_reducible rfl)); simp only [Act.put, List.setIfInBounds_toArray, List.set_cons_zero, List.set_cons_succ])
  ((with_reducible apply E_run); rfl; rfl; (intro w M; go_simp; (try go_ints); (try simp only [↓IntWalk.iteOmega]); (try with_reducible rfl)); simp only [Act.put, List.setIfInBounds_toArray, List.set_cons_zero, List.set_cons_succ])
  ((with_reducible apply E_no); rfl; simp only [Act.put, List.setIfInBounds_toArray, List.set_cons_zero, List.set_cons_succ])
  ((with_reducible apply E_no); rfl; simp only [Act.put, List.setIfInBounds_toArray, List.set_cons_zero, List.set_cons_succ])
  ((with_reducible apply E_no); rfl; simp only [Act.put, List.setIfInBounds_toArray, List.set_cons_zero, List.set_cons_succ])
  ((with_reducible apply E_no); rfl; simp only [Act.put, List.setIfInBounds_toArray, List.set_cons_zero, List.set_cons_succ])
  ((with_reducible apply E_no); rfl; simp only [Act.put, List.setIfInBounds_toArray, List.set_cons_zero, List.set_cons_succ])
  ((with_reducible apply E_no); rfl; simp only [Act.put, List.setIfInBounds_toArray, List.set_cons_zero, List.set_cons_succ])
  ((with_reducible apply E_no); rfl; simp only [Act.put, List.setIfInBounds_toArray, List.set_cons_zero, List.set_cons_succ])
  ((with_reducible apply E_no); rfl; simp only [Act.put, List.setIfInBounds_toArray, List.set_cons_zero, List.set_cons_succ])
  ((with_reducible apply E_run); rfl; rfl; (intro w M; go_simp; (try go_ints); (try simp only [↓IntWalk.iteOmega]); (try with_reducible rfl)); simp only [Act.put, List.setIfInBounds_toArray, List.set_cons_zero, List.set_cons_succ])
  ((with_reducible apply E_run); rfl; rfl; (intro w M; go_simp; (try go_ints); (try simp only [↓IntWalk.iteOmega]); (try with_reducible rfl)); simp only [Act.put, List.setIfInBounds_toArray, List.set_cons_zero, List.set_cons_succ])
  refine E_nil ?_
  intro w9 K M
  replace HR := hid (HR.out.kept K)
  clear K
  refine S_done ?_
  go_wp2_with fail
  go_ret2
  exact ⟨_, rfl, HR.out, M.kept⟩

set_option maxHeartbeats 4000000 in
set_option maxRecDepth 100000 in
theorem refusalD_origin (st : Value) (fb q m G C : Nat) (fs0 : Array Value) (cv mc : Value) (ns : List Nat) (w : World) (hF : FrameQ w fb q fs0 m G ns mc) (hf : FrD fs0 q cv) (hn : 0 ≤ ns.length) (hn2 : ns.length ≤ 40) (hCG : C ≤ G)
    (hC : ∀ w', Kept [] w w' → Calls Salg.prog 183 #[st, .pointer (some ⟨fb, q, none⟩), .int .u8 50] w' fun e w'' => ∃ r, e = .returned r ∧ NumV w'' r C ∧ Kept [] w' w'') :
    Calls Salg.prog 111 #[st, .pointer (some ⟨fb, q, none⟩), .int .u8 50] w fun e w' => ∃ r, e = .returned (.tuple #[.int .u8 0, r]) ∧ NumV w' r C ∧ Kept [] w w' := by
  have M := Mem.start w []
  obtain ⟨fs, pv, gv, sv, xs, hr, hsz, hfs, h3, hpv, h4, hgv, h8, hsv, hxs, hmv⟩ := hF
  have hxl := hxs.1
  obtain ⟨p, n, cp, rfl⟩ := rowV_slice hsv
  obtain rfl : n = xs.length := by
    rcases hsv with ⟨e, e2⟩ | ⟨g, cap, cur, e, _⟩
    · cases e; subst e2; rfl
    · cases e; rfl
  have h2 := (hfs (q + 2) (by omega) (by omega) (by omega) (by omega)).trans hf.f2
  have HG := hid hgv
  have HC := hid hC
  have d1 : decide ((xs.length : Int) < (0 : Int)) = false := by simp <;> omega
  have d2 : decide ((64 : Int) < (xs.length : Int) - (0 : Int) + (1 : Int)) = false := by simp; omega
  have d3 : decide ((64 : Int) < (xs.length : Int) - (0 : Int)) = false := by simp; omega
  have d4 : decide ((64 : Int) < (xs.length : Int)) = false := by simp; omega
  have d5 : decide ((xs.length : Int) < 0) = false := by simp
  clear hgv hC hfs hsv hxs hpv hf hsz hmv h3
  go_enter Salg.func111, Salg.ntmps111
  go_wp2_with fail
  refine (arity_origin _).mono ?_
  rintro e w1 ⟨rfl, hw⟩
  replace hw := hw.symm
  subst hw
  go_wp2_with (first
    | ((with_reducible apply W_loadCell); rfl; exact M.kept.row hr (by simp); exact h8; exact Salg.underlying140; rfl; simp only [Act.put, List.setIfInBounds_toArray, List.set_cons_zero, List.set_cons_succ])
    | ((with_reducible apply W_loadCell); rfl; exact M.kept.row hr (by simp); exact h2; exact Salg.underlying4; rfl; simp only [Act.put, List.setIfInBounds_toArray, List.set_cons_zero, List.set_cons_succ]))
  refine S_region (by kernel_rfl) ?_
  refine E_stage 0 19 [0, 1, 2, 3, 5, 8, 9, 10, 11, 12, 13, 4, 6, 7, 14, 15, 16, 17, 18] (by kernel_rfl) M.drew ?_
  clear M
  simp only [List.filterMap_cons, List.filterMap_nil, List.getElem?_cons_zero, List.getElem?_cons_succ]
  ((with_reducible apply E_run); rfl; rfl; (intro w M; go_simp; (try go_ints); (try simp only [↓IntWalk.iteOmega]); (try with_reducible rfl)); simp only [Act.put, List.setIfInBounds_toArray, List.set_cons_zero, List.set_cons_succ])
  ((with_reducible apply E_run); rfl; rfl; (intro w M; go_simp; (try go_ints); (try simp only [↓IntWalk.iteOmega]); (try with_reducible rfl)); simp only [Act.put, List.setIfInBounds_toArray, List.set_cons_zero, List.set_cons_succ])
  ((with_reducible apply E_run); rfl; rfl; (intro w M; go_simp; (try go_ints); (try simp only [↓IntWalk.iteOmega]); (try with_reducible rfl)); simp only [Act.put, List.setIfInBounds_toArray, List.set_cons_zero, List.set_cons_succ])
  ((with_reducible apply E_no); rfl; simp only [Act.put, List.setIfInBounds_toArray, List.set_cons_zero, List.set_cons_succ])
  ((with_reducible apply E_no); rfl; simp only [Act.put, List.setIfInBounds_toArray, List.set_cons_zero, List.set_cons_succ])
  ((with_reducible apply E_no); rfl; simp only [Act.put, List.setIfInBounds_toArray, List.set_cons_zero, List.set_cons_succ])
  ((with_reducible apply E_no); rfl; simp only [Act.put, List.setIfInBounds_toArray, List.set_cons_zero, List.set_cons_succ])
  ((with_reducible apply E_no); rfl; simp only [Act.put, List.setIfInBounds_toArray, List.set_cons_zero, List.set_cons_succ])
  ((with_reducible apply E_no); rfl; simp only [Act.put, List.setIfInBounds_toArray, List.set_cons_zero, List.set_cons_succ])
  ((with_reducible apply E_no); rfl; simp only [Act.put, List.setIfInBounds_toArray, List.set_cons_zero, List.set_cons_succ])
  ((with_reducible apply E_no); rfl; simp only [Act.put, List.setIfInBounds_toArray, List.set_cons_zero, List.set_cons_succ])
  ((with_reducible apply E_no); rfl; simp only [Act.put, List.setIfInBounds_toArray, List.set_cons_zero, List.set_cons_succ])
  ((with_reducible apply E_no); rfl; simp only [Act.put, List.setIfInBounds_toArray, List.set_cons_zero, List.set_cons_succ])
  ((with_reducible apply E_no); rfl; simp only [Act.put, List.setIfInBounds_toArray, List.set_cons_zero, List.set_cons_succ])
  ((with_reducible apply E_no); rfl; simp only [Act.put, List.setIfInBounds_toArray, List.set_cons_zero, List.set_cons_succ])
  ((with_reducible apply E_no); rfl; simp only [Act.put, List.setIfInBounds_toArray, List.set_cons_zero, List.set_cons_succ])
  ((with_reducible apply E_no); rfl; simp only [Act.put, List.setIfInBounds_toArray, List.set_cons_zero, List.set_cons_succ])
  ((with_reducible apply E_run); rfl; rfl; (intro w M; go_simp; (try go_ints); (try simp only [↓IntWalk.iteOmega]); (try with_reducible rfl)); simp only [Act.put, List.setIfInBounds_toArray, List.set_cons_zero, List.set_cons_succ])
  ((with_reducible apply E_run); rfl; rfl; (intro w M; go_simp; (try go_ints); (try simp only [↓IntWalk.iteOmega]); (try with_reducible rfl)); simp only [Act.put, List.setIfInBounds_toArray, List.set_cons_zero, List.set_cons_succ])
  refine E_nil ?_
  intro w9 K M
  clear K
  refine S_done ?_
  go_wp2_with fail
  refine (HC.out _ M.kept).mono ?_
  rintro e w2 ⟨r, rfl, xHR, K⟩
  have HR := hid xHR
  replace M := M.call K
  clear K xHR
  go_wp2_with ((with_reducible apply W_loadCell); rfl; exact M.kept.row hr (by simp); exact h4; exact Salg.underlying89; rfl; simp only [Act.put, List.setIfInBounds_toArray, List.set_cons_zero, List.set_cons_succ])
  refine (cmp_num r gv C G _ HR.out (HG.out.kept M.kept)).mono ?_
  rintro e w3 ⟨rfl, K⟩
  replace HR := hid (HR.out.kept K)
  replace M := M.call K
  clear K
  have hz : decide ((0 : Int) < cmpI C G) = false := by
    unfold cmpI
    split
    · rfl
    · rw [if_neg (by omega)]; rfl
  go_wp2_with fail
  refine S_region (by kernel_rfl) ?_
  replace HR := hid (HR.out.kept (Kept.refl [] _).drew)
  refine E_stage 0 12 [0, 1, 2, 3, 4, 5, 6, 7, 8, 9, 10, 11] (by kernel_rfl) M.drew ?_
  clear M
  simp only [List.filterMap_cons, List.filterMap_nil, List.getElem?_cons_zero, List.getElem?_cons_succ]
  ((with_reducible apply E_run); rfl; rfl; (intro w M; go_simp; (try go_ints); (try simp only [↓IntWalk.iteOmega]); (try with_reducible rfl)); simp only [Act.put, List.setIfInBounds_toArray, List.set_cons_zero, List.set_cons_succ])
  ((with_reducible apply E_run); rfl; rfl; (intro w M; go_simp; (try go_ints); (try simp only [↓IntWalk.iteOmega]); (try with_reducible rfl)); simp only [Act.put, List.setIfInBounds_toArray, List.set_cons_zero, List.set_cons_succ])
  ((with_reducible apply E_run); rfl; rfl; (intro w M; go_simp; (try go_ints); (try simp only [↓IntWalk.iteOmega]); (try with_reducible rfl)); simp only [Act.put, List.setIfInBounds_toArray, List.set_cons_zero, List.set_cons_succ])
  ((with_reducible apply E_no); rfl; simp only [Act.put, List.setIfInBounds_toArray, List.set_cons_zero, List.set_cons_succ])
  ((with_reducible apply E_no); rfl; simp only [Act.put, List.setIfInBounds_toArray, List.set_cons_zero, List.set_cons_succ])
  ((with_reducible apply E_no); rfl; simp only [Act.put, List.setIfInBounds_toArray, List.set_cons_zero, List.set_cons_succ])
  ((with_reducible apply E_no); rfl; simp only [Act.put, List.setIfInBounds_toArray, List.set_cons_zero, List.set_cons_succ])
  ((with_reducible apply E_no); rfl; simp only [Act.put, List.setIfInBounds_toArray, List.set_cons_zero, List.set_cons_succ])
  ((with_reducible apply E_no); rfl; simp only [Act.put, List.setIfInBounds_toArray, List.set_cons_zero, List.set_cons_succ])
  ((with_reducible apply E_no); rfl; simp only [Act.put, List.setIfInBounds_toArray, List.set_cons_zero, List.set_cons_succ])
  ((with_reducible apply E_run); rfl; rfl; (intro w M; go_simp; (try go_ints); (try simp only [↓IntWalk.iteOmega]); (try with_reducible rfl)); simp only [Act.put, List.setIfInBounds_toArray, List.set_cons_zero, List.set_cons_succ])
  ((with_reducible apply E_run); rfl; rfl; (intro w M; go_simp; (try go_ints); (try simp only [↓IntWalk.iteOmega]); (try with_reducible rfl)); simp only [Act.put, List.setIfInBounds_toArray, List.set_cons_zero, List.set_cons_succ])
  refine E_nil ?_
  intro w9 K M
  replace HR := hid (HR.out.kept K)
  clear K
  refine S_done ?_
  go_wp2_with fail
  refine S_region (by kernel_rfl) ?_
  replace HR := hid (HR.out.kept (Kept.refl [] _).drew)
  refine E_stage 0 13 [0, 1, 2, 3, 4, 5, 6, 7, 8, 9, 10, 11, 12] (by kernel_rfl) M.drew ?_
  clear M
  simp only [List.filterMap_cons, List.filterMap_nil, List.getElem?_cons_zero, List.getElem?_cons_succ]
  ((with_reducible apply E_run); rfl; rfl; (intro w M; go_simp; (try go_ints); (try simp only [↓IntWalk.iteOmega]); (try with_reducible rfl)); simp only [Act.put, List.setIfInBounds_toArray, List.set_cons_zero, List.set_cons_succ])
  ((with_reducible apply E_run); rfl; rfl; (intro w M; go_simp; (try go_ints); (try simp only [↓IntWalk.iteOmega]); (try with_reducible rfl)); simp only [Act.put, List.setIfInBounds_toArray, List.set_cons_zero, List.set_cons_succ])
  ((with_reducible apply E_run); rfl; rfl; (intro w M; go_simp; (try go_ints); (try simp only [↓IntWalk.iteOmega]); (try with_reducible rfl)); simp only [Act.put, List.setIfInBounds_toArray, List.set_cons_zero, List.set_cons_succ])
  ((with_reducible apply E_no); rfl; simp only [Act.put, List.setIfInBounds_toArray, List.set_cons_zero, List.set_cons_succ])
  ((with_reducible apply E_no); rfl; simp only [Act.put, List.setIfInBounds_toArray, List.set_cons_zero, List.set_cons_succ])
  ((with_reducible apply E_no); rfl; simp only [Act.put, List.setIfInBounds_toArray, List.set_cons_zero, List.set_cons_succ])
  ((with_reducible apply E_no); rfl; simp only [Act.put, List.setIfInBounds_toArray, List.set_cons_zero, List.set_cons_succ])
  ((with_reducible apply E_no); rfl; simp only [Act.put, List.setIfInBounds_toArray, List.set_cons_zero, List.set_cons_succ])
  ((with_reducible apply E_no); rfl; simp only [Act.put, List.setIfInBounds_toArray, List.set_cons_zero, List.set_cons_succ])
  ((with_reducible apply E_no); rfl; simp only [Act.put, List.setIfInBounds_toArray, List.set_cons_zero, List.set_cons_succ])
  ((with_reducible apply E_no); rfl; simp only [Act.put, List.setIfInBounds_toArray, List.set_cons_zero, List.set_cons_succ])
  ((with_reducible apply E_run); rfl; rfl; (intro w M; go_simp; (try go_ints); (try simp only [↓IntWalk.iteOmega]); (try with_reducible rfl)); simp only [Act.put, List.setIfInBounds_toArray, List.set_cons_zero, List.set_cons_succ])
  ((with_reducible apply E_run); rfl; rfl; (intro w M; go_simp; (try go_ints); (try simp only [↓IntWalk.iteOmega]); (try with_reducible rfl)); simp only [Act.put, List.setIfInBounds_toArray, List.set_cons_zero, List.set_cons_succ])
  refine E_nil ?_
  intro w9 K M
  replace HR := hid (HR.out.kept K)
  clear K
  refine S_done ?_
  go_wp2_with fail
  refine S_region (by kernel_rfl) ?_
  replace HR := hid (HR.out.kept (Kept.refl [] _).drew)
  refine E_stage 0 19 [0, 1, 2, 3, 4, 5, 6, 7, 8, 9, 10, 11, 12, 13, 14, 15, 16, 17, 18] (by kernel_rfl) M.drew ?_
  clear M
  simp only [List.filterMap_cons, List.filterMap_nil, List.getElem?_cons_zero, List.getElem?_cons_succ]
  ((with_reducible apply E_run); rfl; rfl; (intro w M; go_simp; (try go_ints); (try simp only [↓IntWalk.iteOmega]); (try with_reducible rfl)); simp only [Act.put, List.setIfInBounds_toArray, List.set_cons_zero, List.set_cons_succ])
  ((with_reducible apply E_run); rfl; rfl; (intro w M; go_simp; (try go_ints); (try simp only [↓IntWalk.iteOmega]); (try with_reducible rfl)); simp only [Act.put, List.setIfInBounds_toArray, List.set_cons_zero, List.set_cons_succ])
  ((with_reducible apply E_run); rfl; rfl; (intro w M; go_simp; (try go_ints); (try simp only [↓IntWalk.iteOmega]); (try with_reducible rfl)); simp only [Act.put, List.setIfInBounds_toArray, List.set_cons_zero, List.set_cons_succ])
  ((with_reducible apply E_no); rfl; simp only [Act.put, List.setIfInBounds_toArray, List.set_cons_zero, List.set_cons_succ])
  ((with_reducible apply E_no); rfl; simp only [Act.put, List.setIfInBounds_toArray, List.set_cons_zero, List.set_cons_succ])
  ((with_reducible apply E_no); rfl; simp only [Act.put, List.setIfInBounds_toArray, List.set_cons_zero, List.set_cons_succ])
  ((with_reducible apply E_no); rfl; simp only [Act.put, List.setIfInBounds_toArray, List.set_cons_zero, List.set_cons_succ])
  ((with_reducible apply E_run); rfl; rfl; (intro w M; go_simp; (try go_ints); (try simp only [↓IntWalk.iteOmega]); (try with_reducible rfl)); simp only [Act.put, List.setIfInBounds_toArray, List.set_cons_zero, List.set_cons_succ])
  ((with_reducible apply E_run); rfl; rfl; (intro w M; go_simp; (try go_ints); (try simp only [↓IntWalk.iteOmega]); (try with_reducible rfl)); simp only [Act.put, List.setIfInBounds_toArray, List.set_cons_zero, List.set_cons_succ])
  ((with_reducible apply E_no); rfl; simp only [Act.put, List.setIfInBounds_toArray, List.set_cons_zero, List.set_cons_succ])
  ((with_reducible apply E_no); rfl; simp only [Act.put, List.setIfInBounds_toArray, List.set_cons_zero, List.set_cons_succ])
  ((with_reducible apply E_no); rfl; simp only [Act.put, List.setIfInBounds_toArray, List.set_cons_zero, List.set_cons_succ])
  ((with_reducible apply E_no); rfl; simp only [Act.put, List.setIfInBounds_toArray, List.set_cons_zero, List.set_cons_succ])
  ((with_reducible apply E_no); rfl; simp only [Act.put, List.setIfInBounds_toArray, List.set_cons_zero, List.set_cons_succ])
  ((with_reducible apply E_no); rfl; simp only [Act.put, List.setIfInBounds_toArray, List.set_cons_zero, List.set_cons_succ])
  ((with_reducible apply E_no); rfl; simp only [Act.put, List.setIfInBounds_toArray, List.set_cons_zero, List.set_cons_succ])
  ((with_reducible apply E_no); rfl; simp only [Act.put, List.setIfInBounds_toArray, List.set_cons_zero, List.set_cons_succ])
  ((with_reducible apply E_run); rfl; rfl; (intro w M; go_simp; (try go_ints); (try simp only [↓IntWalk.iteOmega]); (try with_reducible rfl)); simp only [Act.put, List.setIfInBounds_toArray, List.set_cons_zero, List.set_cons_succ])
  ((with_reducible apply E_run); rfl; rfl; (intro w M; go_simp; (try go_ints); (try simp only [↓IntWalk.iteOmega]); (try with_reducible rfl)); simp only [Act.put, List.setIfInBounds_toArray, List.set_cons_zero, List.set_cons_succ])
  refine E_nil ?_
  intro w9 K M
  replace HR := hid (HR.out.kept K)
  clear K
  refine S_done ?_
  go_wp2_with fail
  go_ret2
  exact ⟨_, rfl, HR.out, M.kept⟩

set_option maxHeartbeats 4000000 in
set_option maxRecDepth 100000 in
theorem refusalD_caller (st : Value) (fb q m G C : Nat) (fs0 : Array Value) (cv mc : Value) (ns : List Nat) (w : World) (hF : FrameQ w fb q fs0 m G ns mc) (hf : FrD fs0 q cv) (hn : 0 ≤ ns.length) (hn2 : ns.length ≤ 40) (hCG : C ≤ G)
    (hC : ∀ w', Kept [] w w' → Calls Salg.prog 183 #[st, .pointer (some ⟨fb, q, none⟩), .int .u8 51] w' fun e w'' => ∃ r, e = .returned r ∧ NumV w'' r C ∧ Kept [] w' w'') :
    Calls Salg.prog 111 #[st, .pointer (some ⟨fb, q, none⟩), .int .u8 51] w fun e w' => ∃ r, e = .returned (.tuple #[.int .u8 0, r]) ∧ NumV w' r C ∧ Kept [] w w' := by
  have M := Mem.start w []
  obtain ⟨fs, pv, gv, sv, xs, hr, hsz, hfs, h3, hpv, h4, hgv, h8, hsv, hxs, hmv⟩ := hF
  have hxl := hxs.1
  obtain ⟨p, n, cp, rfl⟩ := rowV_slice hsv
  obtain rfl : n = xs.length := by
    rcases hsv with ⟨e, e2⟩ | ⟨g, cap, cur, e, _⟩
    · cases e; subst e2; rfl
    · cases e; rfl
  have h2 := (hfs (q + 2) (by omega) (by omega) (by omega) (by omega)).trans hf.f2
  have HG := hid hgv
  have HC := hid hC
  have d1 : decide ((xs.length : Int) < (0 : Int)) = false := by simp <;> omega
  have d2 : decide ((64 : Int) < (xs.length : Int) - (0 : Int) + (1 : Int)) = false := by simp; omega
  have d3 : decide ((64 : Int) < (xs.length : Int) - (0 : Int)) = false := by simp; omega
  have d4 : decide ((64 : Int) < (xs.length : Int)) = false := by simp; omega
  have d5 : decide ((xs.length : Int) < 0) = false := by simp
  clear hgv hC hfs hsv hxs hpv hf hsz hmv h3
  go_enter Salg.func111, Salg.ntmps111
  go_wp2_with fail
  refine (arity_caller _).mono ?_
  rintro e w1 ⟨rfl, hw⟩
  replace hw := hw.symm
  subst hw
  go_wp2_with (first
    | ((with_reducible apply W_loadCell); rfl; exact M.kept.row hr (by simp); exact h8; exact Salg.underlying140; rfl; simp only [Act.put, List.setIfInBounds_toArray, List.set_cons_zero, List.set_cons_succ])
    | ((with_reducible apply W_loadCell); rfl; exact M.kept.row hr (by simp); exact h2; exact Salg.underlying4; rfl; simp only [Act.put, List.setIfInBounds_toArray, List.set_cons_zero, List.set_cons_succ]))
  refine S_region (by kernel_rfl) ?_
  refine E_stage 0 19 [0, 1, 2, 3, 5, 8, 9, 10, 11, 12, 13, 4, 6, 7, 14, 15, 16, 17, 18] (by kernel_rfl) M.drew ?_
  clear M
  simp only [List.filterMap_cons, List.filterMap_nil, List.getElem?_cons_zero, List.getElem?_cons_succ]
  ((with_reducible apply E_run); rfl; rfl; (intro w M; go_simp; (try go_ints); (try simp only [↓IntWalk.iteOmega]); (try with_reducible rfl)); simp only [Act.put, List.setIfInBounds_toArray, List.set_cons_zero, List.set_cons_succ])
  ((with_reducible apply E_run); rfl; rfl; (intro w M; go_simp; (try go_ints); (try simp only [↓IntWalk.iteOmega]); (try with_reducible rfl)); simp only [Act.put, List.setIfInBounds_toArray, List.set_cons_zero, List.set_cons_succ])
  ((with_reducible apply E_run); rfl; rfl; (intro w M; go_simp; (try go_ints); (try simp only [↓IntWalk.iteOmega]); (try with_reducible rfl)); simp only [Act.put, List.setIfInBounds_toArray, List.set_cons_zero, List.set_cons_succ])
  ((with_reducible apply E_no); rfl; simp only [Act.put, List.setIfInBounds_toArray, List.set_cons_zero, List.set_cons_succ])
  ((with_reducible apply E_no); rfl; simp only [Act.put, List.setIfInBounds_toArray, List.set_cons_zero, List.set_cons_succ])
  ((with_reducible apply E_no); rfl; simp only [Act.put, List.setIfInBounds_toArray, List.set_cons_zero, List.set_cons_succ])
  ((with_reducible apply E_no); rfl; simp only [Act.put, List.setIfInBounds_toArray, List.set_cons_zero, List.set_cons_succ])
  ((with_reducible apply E_no); rfl; simp only [Act.put, List.setIfInBounds_toArray, List.set_cons_zero, List.set_cons_succ])
  ((with_reducible apply E_no); rfl; simp only [Act.put, List.setIfInBounds_toArray, List.set_cons_zero, List.set_cons_succ])
  ((with_reducible apply E_no); rfl; simp only [Act.put, List.setIfInBounds_toArray, List.set_cons_zero, List.set_cons_succ])
  ((with_reducible apply E_no); rfl; simp only [Act.put, List.setIfInBounds_toArray, List.set_cons_zero, List.set_cons_succ])
  ((with_reducible apply E_no); rfl; simp only [Act.put, List.setIfInBounds_toArray, List.set_cons_zero, List.set_cons_succ])
  ((with_reducible apply E_no); rfl; simp only [Act.put, List.setIfInBounds_toArray, List.set_cons_zero, List.set_cons_succ])
  ((with_reducible apply E_no); rfl; simp only [Act.put, List.setIfInBounds_toArray, List.set_cons_zero, List.set_cons_succ])
  ((with_reducible apply E_no); rfl; simp only [Act.put, List.setIfInBounds_toArray, List.set_cons_zero, List.set_cons_succ])
  ((with_reducible apply E_no); rfl; simp only [Act.put, List.setIfInBounds_toArray, List.set_cons_zero, List.set_cons_succ])
  ((with_reducible apply E_no); rfl; simp only [Act.put, List.setIfInBounds_toArray, List.set_cons_zero, List.set_cons_succ])
  ((with_reducible apply E_run); rfl; rfl; (intro w M; go_simp; (try go_ints); (try simp only [↓IntWalk.iteOmega]); (try with_reducible rfl)); simp only [Act.put, List.setIfInBounds_toArray, List.set_cons_zero, List.set_cons_succ])
  ((with_reducible apply E_run); rfl; rfl; (intro w M; go_simp; (try go_ints); (try simp only [↓IntWalk.iteOmega]); (try with_reducible rfl)); simp only [Act.put, List.setIfInBounds_toArray, List.set_cons_zero, List.set_cons_succ])
  refine E_nil ?_
  intro w9 K M
  clear K
  refine S_done ?_
  go_wp2_with fail
  refine (HC.out _ M.kept).mono ?_
  rintro e w2 ⟨r, rfl, xHR, K⟩
  have HR := hid xHR
  replace M := M.call K
  clear K xHR
  go_wp2_with ((with_reducible apply W_loadCell); rfl; exact M.kept.row hr (by simp); exact h4; exact Salg.underlying89; rfl; simp only [Act.put, List.setIfInBounds_toArray, List.set_cons_zero, List.set_cons_succ])
  refine (cmp_num r gv C G _ HR.out (HG.out.kept M.kept)).mono ?_
  rintro e w3 ⟨rfl, K⟩
  replace HR := hid (HR.out.kept K)
  replace M := M.call K
  clear K
  have hz : decide ((0 : Int) < cmpI C G) = false := by
    unfold cmpI
    split
    · rfl
    · rw [if_neg (by omega)]; rfl
  go_wp2_with fail
  refine S_region (by kernel_rfl) ?_
  replace HR := hid (HR.out.kept (Kept.refl [] _).drew)
  refine E_stage 0 12 [0, 1, 2, 3, 4, 5, 6, 7, 8, 9, 10, 11] (by kernel_rfl) M.drew ?_
  clear M
  simp only [List.filterMap_cons, List.filterMap_nil, List.getElem?_cons_zero, List.getElem?_cons_succ]
  ((with_reducible apply E_run); rfl; rfl; (intro w M; go_simp; (try go_ints); (try simp only [↓IntWalk.iteOmega]); (try with_reducible rfl)); simp only [Act.put, List.setIfInBounds_toArray, List.set_cons_zero, List.set_cons_succ])
  ((with_reducible apply E_run); rfl; rfl; (intro w M; go_simp; (try go_ints); (try simp only [↓IntWalk.iteOmega]); (try with_reducible rfl)); simp only [Act.put, List.setIfInBounds_toArray, List.set_cons_zero, List.set_cons_succ])
  ((with_reducible apply E_run); rfl; rfl; (intro w M; go_simp; (try go_ints); (try simp only [↓IntWalk.iteOmega]); (try with_reducible rfl)); simp only [Act.put, List.setIfInBounds_toArray, List.set_cons_zero, List.set_cons_succ])
  ((with_reducible apply E_no); rfl; simp only [Act.put, List.setIfInBounds_toArray, List.set_cons_zero, List.set_cons_succ])
  ((with_reducible apply E_no); rfl; simp only [Act.put, List.setIfInBounds_toArray, List.set_cons_zero, List.set_cons_succ])
  ((with_reducible apply E_no); rfl; simp only [Act.put, List.setIfInBounds_toArray, List.set_cons_zero, List.set_cons_succ])
  ((with_reducible apply E_no); rfl; simp only [Act.put, List.setIfInBounds_toArray, List.set_cons_zero, List.set_cons_succ])
  ((with_reducible apply E_no); rfl; simp only [Act.put, List.setIfInBounds_toArray, List.set_cons_zero, List.set_cons_succ])
  ((with_reducible apply E_no); rfl; simp only [Act.put, List.setIfInBounds_toArray, List.set_cons_zero, List.set_cons_succ])
  ((with_reducible apply E_no); rfl; simp only [Act.put, List.setIfInBounds_toArray, List.set_cons_zero, List.set_cons_succ])
  ((with_reducible apply E_run); rfl; rfl; (intro w M; go_simp; (try go_ints); (try simp only [↓IntWalk.iteOmega]); (try with_reducible rfl)); simp only [Act.put, List.setIfInBounds_toArray, List.set_cons_zero, List.set_cons_succ])
  ((with_reducible apply E_run); rfl; rfl; (intro w M; go_simp; (try go_ints); (try simp only [↓IntWalk.iteOmega]); (try with_reducible rfl)); simp only [Act.put, List.setIfInBounds_toArray, List.set_cons_zero, List.set_cons_succ])
  refine E_nil ?_
  intro w9 K M
  replace HR := hid (HR.out.kept K)
  clear K
  refine S_done ?_
  go_wp2_with fail
  refine S_region (by kernel_rfl) ?_
  replace HR := hid (HR.out.kept (Kept.refl [] _).drew)
  refine E_stage 0 13 [0, 1, 2, 3, 4, 5, 6, 7, 8, 9, 10, 11, 12] (by kernel_rfl) M.drew ?_
  clear M
  simp only [List.filterMap_cons, List.filterMap_nil, List.getElem?_cons_zero, List.getElem?_cons_succ]
  ((with_reducible apply E_run); rfl; rfl; (intro w M; go_simp; (try go_ints); (try simp only [↓IntWalk.iteOmega]); (try with_reducible rfl)); simp only [Act.put, List.setIfInBounds_toArray, List.set_cons_zero, List.set_cons_succ])
  ((with_reducible apply E_run); rfl; rfl; (intro w M; go_simp; (try go_ints); (try simp only [↓IntWalk.iteOmega]); (try with_reducible rfl)); simp only [Act.put, List.setIfInBounds_toArray, List.set_cons_zero, List.set_cons_succ])
  ((with_reducible apply E_run); rfl; rfl; (intro w M; go_simp; (try go_ints); (try simp only [↓IntWalk.iteOmega]); (try with_reducible rfl)); simp only [Act.put, List.setIfInBounds_toArray, List.set_cons_zero, List.set_cons_succ])
  ((with_reducible apply E_no); rfl; simp only [Act.put, List.setIfInBounds_toArray, List.set_cons_zero, List.set_cons_succ])
  ((with_reducible apply E_no); rfl; simp only [Act.put, List.setIfInBounds_toArray, List.set_cons_zero, List.set_cons_succ])
  ((with_reducible apply E_no); rfl; simp only [Act.put, List.setIfInBounds_toArray, List.set_cons_zero, List.set_cons_succ])
  ((with_reducible apply E_no); rfl; simp only [Act.put, List.setIfInBounds_toArray, List.set_cons_zero, List.set_cons_succ])
  ((with_reducible apply E_no); rfl; simp only [Act.put, List.setIfInBounds_toArray, List.set_cons_zero, List.set_cons_succ])
  ((with_reducible apply E_no); rfl; simp only [Act.put, List.setIfInBounds_toArray, List.set_cons_zero, List.set_cons_succ])
  ((with_reducible apply E_no); rfl; simp only [Act.put, List.setIfInBounds_toArray, List.set_cons_zero, List.set_cons_succ])
  ((with_reducible apply E_no); rfl; simp only [Act.put, List.setIfInBounds_toArray, List.set_cons_zero, List.set_cons_succ])
  ((with_reducible apply E_run); rfl; rfl; (intro w M; go_simp; (try go_ints); (try simp only [↓IntWalk.iteOmega]); (try with_reducible rfl)); simp only [Act.put, List.setIfInBounds_toArray, List.set_cons_zero, List.set_cons_succ])
  ((with_reducible apply E_run); rfl; rfl; (intro w M; go_simp; (try go_ints); (try simp only [↓IntWalk.iteOmega]); (try with_reducible rfl)); simp only [Act.put, List.setIfInBounds_toArray, List.set_cons_zero, List.set_cons_succ])
  refine E_nil ?_
  intro w9 K M
  replace HR := hid (HR.out.kept K)
  clear K
  refine S_done ?_
  go_wp2_with fail
  refine S_region (by kernel_rfl) ?_
  replace HR := hid (HR.out.kept (Kept.refl [] _).drew)
  refine E_stage 0 19 [0, 1, 2, 3, 4, 5, 6, 7, 8, 9, 10, 11, 12, 13, 14, 15, 16, 17, 18] (by kernel_rfl) M.drew ?_
  clear M
  simp only [List.filterMap_cons, List.filterMap_nil, List.getElem?_cons_zero, List.getElem?_cons_succ]
  ((with_reducible apply E_run); rfl; rfl; (intro w M; go_simp; (try go_ints); (try simp only [↓IntWalk.iteOmega]); (try with_reducible rfl)); simp only [Act.put, List.setIfInBounds_toArray, List.set_cons_zero, List.set_cons_succ])
  ((with_reducible apply E_run); rfl; rfl; (intro w M; go_simp; (try go_ints); (try simp only [↓IntWalk.iteOmega]); (try with_reducible rfl)); simp only [Act.put, List.setIfInBounds_toArray, List.set_cons_zero, List.set_cons_succ])
  ((with_reducible apply E_run); rfl; rfl; (intro w M; go_simp; (try go_ints); (try simp only [↓IntWalk.iteOmega]); (try with_reducible rfl)); simp only [Act.put, List.setIfInBounds_toArray, List.set_cons_zero, List.set_cons_succ])
  ((with_reducible apply E_no); rfl; simp only [Act.put, List.setIfInBounds_toArray, List.set_cons_zero, List.set_cons_succ])
  ((with_reducible apply E_no); rfl; simp only [Act.put, List.setIfInBounds_toArray, List.set_cons_zero, List.set_cons_succ])
  ((with_reducible apply E_no); rfl; simp only [Act.put, List.setIfInBounds_toArray, List.set_cons_zero, List.set_cons_succ])
  ((with_reducible apply E_no); rfl; simp only [Act.put, List.setIfInBounds_toArray, List.set_cons_zero, List.set_cons_succ])
  ((with_reducible apply E_run); rfl; rfl; (intro w M; go_simp; (try go_ints); (try simp only [↓IntWalk.iteOmega]); (try with_reducible rfl)); simp only [Act.put, List.setIfInBounds_toArray, List.set_cons_zero, List.set_cons_succ])
  ((with_reducible apply E_run); rfl; rfl; (intro w M; go_simp; (try go_ints); (try simp only [↓IntWalk.iteOmega]); (try with_reducible rfl)); simp only [Act.put, List.setIfInBounds_toArray, List.set_cons_zero, List.set_cons_succ])
  ((with_reducible apply E_no); rfl; simp only [Act.put, List.setIfInBounds_toArray, List.set_cons_zero, List.set_cons_succ])
  ((with_reducible apply E_no); rfl; simp only [Act.put, List.setIfInBounds_toArray, List.set_cons_zero, List.set_cons_succ])
  ((with_reducible apply E_no); rfl; simp only [Act.put, List.setIfInBounds_toArray, List.set_cons_zero, List.set_cons_succ])
  ((with_reducible apply E_no); rfl; simp only [Act.put, List.setIfInBounds_toArray, List.set_cons_zero, List.set_cons_succ])
  ((with_reducible apply E_no); rfl; simp only [Act.put, List.setIfInBounds_toArray, List.set_cons_zero, List.set_cons_succ])
  ((with_reducible apply E_no); rfl; simp only [Act.put, List.setIfInBounds_toArray, List.set_cons_zero, List.set_cons_succ])
  ((with_reducible apply E_no); rfl; simp only [Act.put, List.setIfInBounds_toArray, List.set_cons_zero, List.set_cons_succ])
  ((with_reducible apply E_no); rfl; simp only [Act.put, List.setIfInBounds_toArray, List.set_cons_zero, List.set_cons_succ])
  ((with_reducible apply E_run); rfl; rfl; (intro w M; go_simp; (try go_ints); (try simp only [↓IntWalk.iteOmega]); (try with_reducible rfl)); simp only [Act.put, List.setIfInBounds_toArray, List.set_cons_zero, List.set_cons_succ])
  ((with_reducible apply E_run); rfl; rfl; (intro w M; go_simp; (try go_ints); (try simp only [↓IntWalk.iteOmega]); (try with_reducible rfl)); simp only [Act.put, List.setIfInBounds_toArray, List.set_cons_zero, List.set_cons_succ])
  refine E_nil ?_
  intro w9 K M
  replace HR := hid (HR.out.kept K)
  clear K
  refine S_done ?_
  go_wp2_with fail
  go_ret2
  exact ⟨_, rfl, HR.out, M.kept⟩

set_option maxHeartbeats 4000000 in
set_option maxRecDepth 100000 in
theorem refusalD_callvalue (st : Value) (fb q m G C : Nat) (fs0 : Array Value) (cv mc : Value) (ns : List Nat) (w : World) (hF : FrameQ w fb q fs0 m G ns mc) (hf : FrD fs0 q cv) (hn : 0 ≤ ns.length) (hn2 : ns.length ≤ 40) (hCG : C ≤ G)
    (hC : ∀ w', Kept [] w w' → Calls Salg.prog 183 #[st, .pointer (some ⟨fb, q, none⟩), .int .u8 52] w' fun e w'' => ∃ r, e = .returned r ∧ NumV w'' r C ∧ Kept [] w' w'') :
    Calls Salg.prog 111 #[st, .pointer (some ⟨fb, q, none⟩), .int .u8 52] w fun e w' => ∃ r, e = .returned (.tuple #[.int .u8 0, r]) ∧ NumV w' r C ∧ Kept [] w w' := by
  have M := Mem.start w []
  obtain ⟨fs, pv, gv, sv, xs, hr, hsz, hfs, h3, hpv, h4, hgv, h8, hsv, hxs, hmv⟩ := hF
  have hxl := hxs.1
  obtain ⟨p, n, cp, rfl⟩ := rowV_slice hsv
  obtain rfl : n = xs.length := by
    rcases hsv with ⟨e, e2⟩ | ⟨g, cap, cur, e, _⟩
    · cases e; subst e2; rfl
    · cases e; rfl
  have h2 := (hfs (q + 2) (by omega) (by omega) (by omega) (by omega)).trans hf.f2
  have HG := hid hgv
  have HC := hid hC
  have d1 : decide ((xs.length : Int) < (0 : Int)) = false := by simp <;> omega
  have d2 : decide ((64 : Int) < (xs.length : Int) - (0 : Int) + (1 : Int)) = false := by simp; omega
  have d3 : decide ((64 : Int) < (xs.length : Int) - (0 : Int)) = false := by simp; omega
  have d4 : decide ((64 : Int) < (xs.length : Int)) = false := by simp; omega
  have d5 : decide ((xs.length : Int) < 0) = false := by simp
  clear hgv hC hfs hsv hxs hpv hf hsz hmv h3
  go_enter Salg.func111, Salg.ntmps111
  go_wp2_with fail
  refine (arity_callvalue _).mono ?_
  rintro e w1 ⟨rfl, hw⟩
  replace hw := hw.symm
  subst hw
  go_wp2_with (first
    | ((with_reducible apply W_loadCell); rfl; exact M.kept.row hr (by simp); exact h8; exact Salg.underlying140; rfl; simp only [Act.put, List.setIfInBounds_toArray, List.set_cons_zero, List.set_cons_succ])
    | ((with_reducible apply W_loadCell); rfl; exact M.kept.row hr (by simp); exact h2; exact Salg.underlying4; rfl; simp only [Act.put, List.setIfInBounds_toArray, List.set_cons_zero, List.set_cons_succ]))
  refine S_region (by kernel_rfl) ?_
  refine E_stage 0 19 [0, 1, 2, 3, 5, 8, 9, 10, 11, 12, 13, 4, 6, 7, 14, 15, 16, 17, 18] (by kernel_rfl) M.drew ?_
  clear M
  simp only [List.filterMap_cons, List.filterMap_nil, List.getElem?_cons_zero, List.getElem?_cons_succ]
  ((with_reducible apply E_run); rfl; rfl; (intro w M; go_simp; (try go_ints); (try simp only [↓IntWalk.iteOmega]); (try with_reducible rfl)); simp only [Act.put, List.setIfInBounds_toArray, List.set_cons_zero, List.set_cons_succ])
  ((with_reducible apply E_run); rfl; rfl; (intro w M; go_simp; (try go_ints); (try simp only [↓IntWalk.iteOmega]); (try with_reducible rfl)); simp only [Act.put, List.setIfInBounds_toArray, List.set_cons_zero, List.set_cons_succ])
  ((with_reducible apply E_run); rfl; rfl; (intro w M; go_simp; (try go_ints); (try simp only [↓IntWalk.iteOmega]); (try with_reducible rfl)); simp only [Act.put, List.setIfInBounds_toArray, List.set_cons_zero, List.set_cons_succ])
  ((with_reducible apply E_no); rfl; simp only [Act.put, List.setIfInBounds_toArray, List.set_cons_zero, List.set_cons_succ])
  ((with_reducible apply E_no); rfl; simp only [Act.put, List.setIfInBounds_toArray, List.set_cons_zero, List.set_cons_succ])
  ((with_reducible apply E_no); rfl; simp only [Act.put, List.setIfInBounds_toArray, List.set_cons_zero, List.set_cons_succ])
  ((with_reducible apply E_no); rfl; simp only [Act.put, List.setIfInBounds_toArray, List.set_cons_zero, List.set_cons_succ])
  ((with_reducible apply E_no); rfl; simp only [Act.put, List.setIfInBounds_toArray, List.set_cons_zero, List.set_cons_succ])
  ((with_reducible apply E_no); rfl; simp only [Act.put, List.setIfInBounds_toArray, List.set_cons_zero, List.set_cons_succ])
  ((with_reducible apply E_no); rfl; simp only [Act.put, List.setIfInBounds_toArray, List.set_cons_zero, List.set_cons_succ])
  ((with_reducible apply E_no); rfl; simp only [Act.put, List.setIfInBounds_toArray, List.set_cons_zero, List.set_cons_succ])
  ((with_reducible apply E_no); rfl; simp only [Act.put, List.setIfInBounds_toArray, List.set_cons_zero, List.set_cons_succ])
  ((with_reducible apply E_no); rfl; simp only [Act.put, List.setIfInBounds_toArray, List.set_cons_zero, List.set_cons_succ])
  ((with_reducible apply E_no); rfl; simp only [Act.put, List.setIfInBounds_toArray, List.set_cons_zero, List.set_cons_succ])
  ((with_reducible apply E_no); rfl; simp only [Act.put, List.setIfInBounds_toArray, List.set_cons_zero, List.set_cons_succ])
  ((with_reducible apply E_no); rfl; simp only [Act.put, List.setIfInBounds_toArray, List.set_cons_zero, List.set_cons_succ])
  ((with_reducible apply E_no); rfl; simp only [Act.put, List.setIfInBounds_toArray, List.set_cons_zero, List.set_cons_succ])
  ((with_reducible apply E_run); rfl; rfl; (intro w M; go_simp; (try go_ints); (try simp only [↓IntWalk.iteOmega]); (try with_reducible rfl)); simp only [Act.put, List.setIfInBounds_toArray, List.set_cons_zero, List.set_cons_succ])
  ((with_reducible apply E_run); rfl; rfl; (intro w M; go_simp; (try go_ints); (try simp only [↓IntWalk.iteOmega]); (try with_reducible rfl)); simp only [Act.put, List.setIfInBounds_toArray, List.set_cons_zero, List.set_cons_succ])
  refine E_nil ?_
  intro w9 K M
  clear K
  refine S_done ?_
  go_wp2_with fail
  refine (HC.out _ M.kept).mono ?_
  rintro e w2 ⟨r, rfl, xHR, K⟩
  have HR := hid xHR
  replace M := M.call K
  clear K xHR
  go_wp2_with ((with_reducible apply W_loadCell); rfl; exact M.kept.row hr (by simp); exact h4; exact Salg.underlying89; rfl; simp only [Act.put, List.setIfInBounds_toArray, List.set_cons_zero, List.set_cons_succ])
  refine (cmp_num r gv C G _ HR.out (HG.out.kept M.kept)).mono ?_
  rintro e w3 ⟨rfl, K⟩
  replace HR := hid (HR.out.kept K)
  replace M := M.call K
  clear K
  have hz : decide ((0 : Int) < cmpI C G) = false := by
    unfold cmpI
    split
    · rfl
    · rw [if_neg (by omega)]; rfl
  go_wp2_with fail
  refine S_region (by kernel_rfl) ?_
  replace HR := hid (HR.out.kept (Kept.refl [] _).drew)
  refine E_stage 0 12 [0, 1, 2, 3, 4, 5, 6, 7, 8, 9, 10, 11] (by kernel_rfl) M.drew ?_
  clear M
  simp only [List.filterMap_cons, List.filterMap_nil, List.getElem?_cons_zero, List.getElem?_cons_succ]
  ((with_reducible apply E_run); rfl; rfl; (intro w M; go_simp; (try go_ints); (try simp only [↓IntWalk.iteOmega]); (try with_reducible rfl)); simp only [Act.put, List.setIfInBounds_toArray, List.set_cons_zero, List.set_cons_succ])
  ((with_reducible apply E_run); rfl; rfl; (intro w M; go_simp; (try go_ints); (try simp only [↓IntWalk.iteOmega]); (try with_reducible rfl)); simp only [Act.put, List.setIfInBounds_toArray, List.set_cons_zero, List.set_cons_succ])
  ((with_reducible apply E_run); rfl; rfl; (intro w M; go_simp; (try go_ints); (try simp only [↓IntWalk.iteOmega]); (try with_reducible rfl)); simp only [Act.put, List.setIfInBounds_toArray, List.set_cons_zero, List.set_cons_succ])
  ((with_reducible apply E_no); rfl; simp only [Act.put, List.setIfInBounds_toArray, List.set_cons_zero, List.set_cons_succ])
  ((with_reducible apply E_no); rfl; simp only [Act.put, List.setIfInBounds_toArray, List.set_cons_zero, List.set_cons_succ])
  ((with_reducible apply E_no); rfl; simp only [Act.put, List.setIfInBounds_toArray, List.set_cons_zero, List.set_cons_succ])
  ((with_reducible apply E_no); rfl; simp only [Act.put, List.setIfInBounds_toArray, List.set_cons_zero, List.set_cons_succ])
  ((with_reducible apply E_no); rfl; simp only [Act.put, List.setIfInBounds_toArray, List.set_cons_zero, List.set_cons_succ])
  ((with_reducible apply E_no); rfl; simp only [Act.put, List.setIfInBounds_toArray, List.set_cons_zero, List.set_cons_succ])
  ((with_reducible apply E_no); rfl; simp only [Act.put, List.setIfInBounds_toArray, List.set_cons_zero, List.set_cons_succ])
  ((with_reducible apply E_run); rfl; rfl; (intro w M; go_simp; (try go_ints); (try simp only [↓IntWalk.iteOmega]); (try with_reducible rfl)); simp only [Act.put, List.setIfInBounds_toArray, List.set_cons_zero, List.set_cons_succ])
  ((with_reducible apply E_run); rfl; rfl; (intro w M; go_simp; (try go_ints); (try simp only [↓IntWalk.iteOmega]); (try with_reducible rfl)); simp only [Act.put, List.setIfInBounds_toArray, List.set_cons_zero, List.set_cons_succ])
  refine E_nil ?_
  intro w9 K M
  replace HR := hid (HR.out.kept K)
  clear K
  refine S_done ?_
  go_wp2_with fail
  refine S_region (by kernel_rfl) ?_
  replace HR := hid (HR.out.kept (Kept.refl [] _).drew)
  refine E_stage 0 13 [0, 1, 2, 3, 4, 5, 6, 7, 8, 9, 10, 11, 12] (by kernel_rfl) M.drew ?_
  clear M
  simp only [List.filterMap_cons, List.filterMap_nil, List.getElem?_cons_zero, List.getElem?_cons_succ]
  ((with_reducible apply E_run); rfl; rfl; (intro w M; go_simp; (try go_ints); (try simp only [↓IntWalk.iteOmega]); (try with_reducible rfl)); simp only [Act.put, List.setIfInBounds_toArray, List.set_cons_zero, List.set_cons_succ])
  ((with_reducible apply E_run); rfl; rfl; (intro w M; go_simp; (try go_ints); (try simp only [↓IntWalk.iteOmega]); (try with_reducible rfl)); simp only [Act.put, List.setIfInBounds_toArray, List.set_cons_zero, List.set_cons_succ])
  ((with_reducible apply E_run); rfl; rfl; (intro w M; go_simp; (try go_ints); (try simp only [↓IntWalk.iteOmega]); (try with_reducible rfl)); simp only [Act.put, List.setIfInBounds_toArray, List.set_cons_zero, List.set_cons_succ])
  ((with_reducible apply E_no); rfl; simp only [Act.put, List.setIfInBounds_toArray, List.set_cons_zero, List.set_cons_succ])
  ((with_reducible apply E_no); rfl; simp only [Act.put, List.setIfInBounds_toArray, List.set_cons_zero, List.set_cons_succ])
  ((with_reducible apply E_no); rfl; simp only [Act.put, List.setIfInBounds_toArray, List.set_cons_zero, List.set_cons_succ])
  ((with_reducible apply E_no); rfl; simp only [Act.put, List.setIfInBounds_toArray, List.set_cons_zero, List.set_cons_succ])
  ((with_reducible apply E_no); rfl; simp only [Act.put, List.setIfInBounds_toArray, List.set_cons_zero, List.set_cons_succ])
  ((with_reducible apply E_no); rfl; simp only [Act.put, List.setIfInBounds_toArray, List.set_cons_zero, List.set_cons_succ])
  ((with_reducible apply E_no); rfl; simp only [Act.put, List.setIfInBounds_toArray, List.set_cons_zero, List.set_cons_succ])
  ((with_reducible apply E_no); rfl; simp only [Act.put, List.setIfInBounds_toArray, List.set_cons_zero, List.set_cons_succ])
  ((with_reducible apply E_run); rfl; rfl; (intro w M; go_simp; (try go_ints); (try simp only [↓IntWalk.iteOmega]); (try with_reducible rfl)); simp only [Act.put, List.setIfInBounds_toArray, List.set_cons_zero, List.set_cons_succ])
  ((with_reducible apply E_run); rfl; rfl; (intro w M; go_simp; (try go_ints); (try simp only [↓IntWalk.iteOmega]); (try with_reducible rfl)); simp only [Act.put, List.setIfInBounds_toArray, List.set_cons_zero, List.set_cons_succ])
  refine E_nil ?_
  intro w9 K M
  replace HR := hid (HR.out.kept K)
  clear K
  refine S_done ?_
  go_wp2_with fail
  refine S_region (by kernel_rfl) ?_
  replace HR := hid (HR.out.kept (Kept.refl [] _).drew)
  refine E_stage 0 19 [0, 1, 2, 3, 4, 5, 6, 7, 8, 9, 10, 11, 12, 13, 14, 15, 16, 17, 18] (by kernel_rfl) M.drew ?_
  clear M
  simp only [List.filterMap_cons, List.filterMap_nil, List.getElem?_cons_zero, List.getElem?_cons_succ]
  ((with_reducible apply E_run); rfl; rfl; (intro w M; go_simp; (try go_ints); (try simp only [↓IntWalk.iteOmega]); (try with_reducible rfl)); simp only [Act.put, List.setIfInBounds_toArray, List.set_cons_zero, List.set_cons_succ])
  ((with_reducible apply E_run); rfl; rfl; (intro w M; go_simp; (try go_ints); (try simp only [↓IntWalk.iteOmega]); (try with_reducible rfl)); simp only [Act.put, List.setIfInBounds_toArray, List.set_cons_zero, List.set_cons_succ])
  ((with_reducible apply E_run); rfl; rfl; (intro w M; go_simp; (try go_ints); (try simp only [↓IntWalk.iteOmega]); (try with_reducible rfl)); simp only [Act.put, List.setIfInBounds_toArray, List.set_cons_zero, List.set_cons_succ])
  ((with_reducible apply E_no); rfl; simp only [Act.put, List.setIfInBounds_toArray, List.set_cons_zero, List.set_cons_succ])
  ((with_reducible apply E_no); rfl; simp only [Act.put, List.setIfInBounds_toArray, List.set_cons_zero, List.set_cons_succ])
  ((with_reducible apply E_no); rfl; simp only [Act.put, List.setIfInBounds_toArray, List.set_cons_zero, List.set_cons_succ])
  ((with_reducible apply E_no); rfl; simp only [Act.put, List.setIfInBounds_toArray, List.set_cons_zero, List.set_cons_succ])
  ((with_reducible apply E_run); rfl; rfl; (intro w M; go_simp; (try go_ints); (try simp only [↓IntWalk.iteOmega]); (try with_reducible rfl)); simp only [Act.put, List.setIfInBounds_toArray, List.set_cons_zero, List.set_cons_succ])
  ((with_reducible apply E_run); rfl; rfl; (intro w M; go_simp; (try go_ints); (try simp only [↓IntWalk.iteOmega]); (try with_reducible rfl)); simp only [Act.put, List.setIfInBounds_toArray, List.set_cons_zero, List.set_cons_succ])
  ((with_reducible apply E_no); rfl; simp only [Act.put, List.setIfInBounds_toArray, List.set_cons_zero, List.set_cons_succ])
  ((with_reducible apply E_no); rfl; simp only [Act.put, List.setIfInBounds_toArray, List.set_cons_zero, List.set_cons_succ])
  ((with_reducible apply E_no); rfl; simp only [Act.put, List.setIfInBounds_toArray, List.set_cons_zero, List.set_cons_succ])
  ((with_reducible apply E_no); rfl; simp only [Act.put, List.setIfInBounds_toArray, List.set_cons_zero, List.set_cons_succ])
  ((with_reducible apply E_no); rfl; simp only [Act.put, List.setIfInBounds_toArray, List.set_cons_zero, List.set_cons_succ])
  ((with_reducible apply E_no); rfl; simp only [Act.put, List.setIfInBounds_toArray, List.set_cons_zero, List.set_cons_succ])
  ((with_reducible apply E_no); rfl; simp only [Act.put, List.setIfInBounds_toArray, List.set_cons_zero, List.set_cons_succ])
  ((with_reducible apply E_no); rfl; simp only [Act.put, List.setIfInBounds_toArray, List.set_cons_zero, List.set_cons_succ])
  ((with_reducible apply E_run); rfl; rfl; (intro w M; go_simp; (try go_ints); (try simp only [↓IntWalk.iteOmega]); (try with_reducible rfl)); simp only [Act.put, List.setIfInBounds_toArray, List.set_cons_zero, List.set_cons_succ])
  ((with_reducible apply E_run); rfl; rfl; (intro w M; go_simp; (try go_ints); (try simp only [↓IntWalk.iteOmega]); (try with_reducible rfl)); simp only [Act.put, List.setIfInBounds_toArray, List.set_cons_zero, List.set_cons_succ])
  refine E_nil ?_
  intro w9 K M
  replace HR := hid (HR.out.kept K)
  clear K
  refine S_done ?_
  go_wp2_with fail
  go_ret2
  exact ⟨_, rfl, HR.out, M.kept⟩

set_option maxHeartbeats 4000000 in
set_option maxRecDepth 100000 in
theorem refusalD_returndatasize (st : Value) (fb q m G C : Nat) (fs0 : Array Value) (cv mc : Value) (ns : List Nat) (w : World) (hF : FrameQ w fb q fs0 m G ns mc) (hf : FrD fs0 q cv) (hn : 0 ≤ ns.length) (hn2 : ns.length ≤ 40) (hCG : C ≤ G)
    (hC : ∀ w', Kept [] w w' → Calls Salg.prog 183 #[st, .pointer (some ⟨fb, q, none⟩), .int .u8 61] w' fun e w'' => ∃ r, e = .returned r ∧ NumV w'' r C ∧ Kept [] w' w'') :
    Calls Salg.prog 111 #[st, .pointer (some ⟨fb, q, none⟩), .int .u8 61] w fun e w' => ∃ r, e = .returned (.tuple #[.int .u8 0, r]) ∧ NumV w' r C ∧ Kept [] w w' := by
  have M := Mem.start w []
  obtain ⟨fs, pv, gv, sv, xs, hr, hsz, hfs, h3, hpv, h4, hgv, h8, hsv, hxs, hmv⟩ := hF
  have hxl := hxs.1
  obtain ⟨p, n, cp, rfl⟩ := rowV_slice hsv
  obtain rfl : n = xs.length := by
    rcases hsv with ⟨e, e2⟩ | ⟨g, cap, cur, e, _⟩
    · cases e; subst e2; rfl
    · cases e; rfl
  have h2 := (hfs (q + 2) (by omega) (by omega) (by omega) (by omega)).trans hf.f2
  have HG := hid hgv
  have HC := hid hC
  have d1 : decide ((xs.length : Int) < (0 : Int)) = false := by simp <;> omega
  have d2 : decide ((64 : Int) < (xs.length : Int) - (0 : Int) + (1 : Int)) = false := by simp; omega
  have d3 : decide ((64 : Int) < (xs.length : Int) - (0 : Int)) = false := by simp; omega
  have d4 : decide ((64 : Int) < (xs.length : Int)) = false := by simp; omega
  have d5 : decide ((xs.length : Int) < 0) = false := by simp
  clear hgv hC hfs hsv hxs hpv hf hsz hmv h3
  go_enter Salg.func111, Salg.ntmps111
  go_wp2_with fail
  refine (arity_returndatasize _).mono ?_
  rintro e w1 ⟨rfl, hw⟩
  replace hw := hw.symm
  subst hw
  go_wp2_with (first
    | ((with_reducible apply W_loadCell); rfl; exact M.kept.row hr (by simp); exact h8; exact Salg.underlying140; rfl; simp only [Act.put, List.setIfInBounds_toArray, List.set_cons_zero, List.set_cons_succ])
    | ((with_reducible apply W_loadCell); rfl; exact M.kept.row hr (by simp); exact h2; exact Salg.underlying4; rfl; simp only [Act.put, List.setIfInBounds_toArray, List.set_cons_zero, List.set_cons_succ]))
  refine S_region (by kernel_rfl) ?_
  refine E_stage 0 19 [0, 1, 2, 3, 5, 8, 9, 10, 11, 12, 13, 4, 6, 7, 14, 15, 16, 17, 18] (by kernel_rfl) M.drew ?_
  clear M
  simp only [List.filterMap_cons, List.filterMap_nil, List.getElem?_cons_zero, List.getElem?_cons_succ]
  ((with_reducible apply E_run); rfl; rfl; (intro w M; go_simp; (try go_ints); (try simp only [↓IntWalk.iteOmega]); (try with_reducible rfl)); simp only [Act.put, List.setIfInBounds_toArray, List.set_cons_zero, List.set_cons_succ])
  ((with_reducible apply E_run); rfl; rfl; (intro w M; go_simp; (try go_ints); (try simp only [↓IntWalk.iteOmega]); (try with_reducible rfl)); simp only [Act.put, List.setIfInBounds_toArray, List.set_cons_zero, List.set_cons_succ])
  ((with_reducible apply E_run); rfl; rfl; (intro w M; go_simp; (try go_ints); (try simp only [↓IntWalk.iteOmega]); (try with_reducible rfl)); simp only [Act.put, List.setIfInBounds_toArray, List.set_cons_zero, List.set_cons_succ])
  ((with_reducible apply E_no); rfl; simp only [Act.put, List.setIfInBounds_toArray, List.set_cons_zero, List.set_cons_succ])
  ((with_reducible apply E_no); rfl; simp only [Act.put, List.setIfInBounds_toArray, List.set_cons_zero, List.set_cons_succ])
  ((with_reducible apply E_no); rfl; simp only [Act.put, List.setIfInBounds_toArray, List.set_cons_zero, List.set_cons_succ])
  ((with_reducible apply E_no); rfl; simp only [Act.put, List.setIfInBounds_toArray, List.set_cons_zero, List.set_cons_succ])
  ((with_reducible apply E_no); rfl; simp only [Act.put, List.setIfInBounds_toArray, List.set_cons_zero, List.set_cons_succ])
  ((with_reducible apply E_no); rfl; simp only [Act.put, List.setIfInBounds_toArray, List.set_cons_zero, List.set_cons_succ])
  ((with_reducible apply E_no); rfl; simp only [Act.put, List.setIfInBounds_toArray, List.set_cons_zero, List.set_cons_succ])
  ((with_reducible apply E_no); rfl; simp only [Act.put, List.setIfInBounds_toArray, List.set_cons_zero, List.set_cons_succ])
  ((with_reducible apply E_no); rfl; simp only [Act.put, List.setIfInBounds_toArray, List.set_cons_zero, List.set_cons_succ])
  ((with_reducible apply E_no); rfl; simp only [Act.put, List.setIfInBounds_toArray, List.set_cons_zero, List.set_cons_succ])
  ((with_reducible apply E_no); rfl; simp only [Act.put, List.setIfInBounds_toArray, List.set_cons_zero, List.set_cons_succ])
  ((with_reducible apply E_no); rfl; simp only [Act.put, List.setIfInBounds_toArray, List.set_cons_zero, List.set_cons_succ])
  ((with_reducible apply E_no); rfl; simp only [Act.put, List.setIfInBounds_toArray, List.set_cons_zero, List.set_cons_succ])
  ((with_reducible apply E_no); rfl; simp only [Act.put, List.setIfInBounds_toArray, List.set_cons_zero, List.set_cons_succ])
  ((with_reducible apply E_run); rfl; rfl; (intro w M; go_simp; (try go_ints); (try simp only [↓IntWalk.iteOmega]); (try with_reducible rfl)); simp only [Act.put, List.setIfInBounds_toArray, List.set_cons_zero, List.set_cons_succ])
  ((with_reducible apply E_run); rfl; rfl; (intro w M; go_simp; (try go_ints); (try simp only [↓IntWalk.iteOmega]); (try with_reducible rfl)); simp only [Act.put, List.setIfInBounds_toArray, List.set_cons_zero, List.set_cons_succ])
  refine E_nil ?_
  intro w9 K M
  clear K
  refine S_done ?_
  go_wp2_with fail
  refine (HC.out _ M.kept).mono ?_
  rintro e w2 ⟨r, rfl, xHR, K⟩
  have HR := hid xHR
  replace M := M.call K
  clear K xHR
  go_wp2_with ((with_reducible apply W_loadCell); rfl; exact M.kept.row hr (by simp); exact h4; exact Salg.underlying89; rfl; simp only [Act.put, List.setIfInBounds_toArray, List.set_cons_zero, List.set_cons_succ])
  refine (cmp_num r gv C G _ HR.out (HG.out.kept M.kept)).mono ?_
  rintro e w3 ⟨rfl, K⟩
  replace HR := hid (HR.out.kept K)
  replace M := M.call K
  clear K
  have hz : decide ((0 : Int) < cmpI C G) = false := by
    unfold cmpI
    split
    · rfl
    · rw [if_neg (by omega)]; rfl
  go_wp2_with fail
  refine S_region (by kernel_rfl) ?_
  replace HR := hid (HR.out.kept (Kept.refl [] _).drew)
  refine E_stage 0 12 [0, 1, 2, 3, 4, 5, 6, 7, 8, 9, 10, 11] (by kernel_rfl) M.drew ?_
  clear M
  simp only [List.filterMap_cons, List.filterMap_nil, List.getElem?_cons_zero, List.getElem?_cons_succ]
  ((with_reducible apply E_run); rfl; rfl; (intro w M; go_simp; (try go_ints); (try simp only [↓IntWalk.iteOmega]); (try with_reducible rfl)); simp only [Act.put, List.setIfInBounds_toArray, List.set_cons_zero, List.set_cons_succ])
  ((with_reducible apply E_run); rfl; rfl; (intro w M; go_simp; (try go_ints); (try simp only [↓IntWalk.iteOmega]); (try with_reducible rfl)); simp only [Act.put, List.setIfInBounds_toArray, List.set_cons_zero, List.set_cons_succ])
  ((with_reducible apply E_run); rfl; rfl; (intro w M; go_simp; (try go_ints); (try simp only [↓IntWalk.iteOmega]); (try with_reducible rfl)); simp only [Act.put, List.setIfInBounds_toArray, List.set_cons_zero, List.set_cons_succ])
  ((with_reducible apply E_no); rfl; simp only [Act.put, List.setIfInBounds_toArray, List.set_cons_zero, List.set_cons_succ])
  ((with_reducible apply E_no); rfl; simp only [Act.put, List.setIfInBounds_toArray, List.set_cons_zero, List.set_cons_succ])
  ((with_reducible apply E_no); rfl; simp only [Act.put, List.setIfInBounds_toArray, List.set_cons_zero, List.set_cons_succ])
  ((with_reducible apply E_no); rfl; simp only [Act.put, List.setIfInBounds_toArray, List.set_cons_zero, List.set_cons_succ])
  ((with_reducible apply E_no); rfl; simp only [Act.put, List.setIfInBounds_toArray, List.set_cons_zero, List.set_cons_succ])
  ((with_reducible apply E_no); rfl; simp only [Act.put, List.setIfInBounds_toArray, List.set_cons_zero, List.set_cons_succ])
  ((with_reducible apply E_no); rfl; simp only [Act.put, List.setIfInBounds_toArray, List.set_cons_zero, List.set_cons_succ])
  ((with_reducible apply E_run); rfl; rfl; (intro w M; go_simp; (try go_ints); (try simp only [↓IntWalk.iteOmega]); (try with_reducible rfl)); simp only [Act.put, List.setIfInBounds_toArray, List.set_cons_zero, List.set_cons_succ])
  ((with_reducible apply E_run); rfl; rfl; (intro w M; go_simp; (try go_ints); (try simp only [↓IntWalk.iteOmega]); (try with_reducible rfl)); simp only [Act.put, List.setIfInBounds_toArray, List.set_cons_zero, List.set_cons_succ])
  refine E_nil ?_
  intro w9 K M
  replace HR := hid (HR.out.kept K)
  clear K
  refine S_done ?_
  go_wp2_with fail
  refine S_region (by kernel_rfl) ?_
  replace HR := hid (HR.out.kept (Kept.refl [] _).drew)
  refine E_stage 0 13 [0, 1, 2, 3, 4, 5, 6, 7, 8, 9, 10, 11, 12] (by kernel_rfl) M.drew ?_
  clear M
  simp only [List.filterMap_cons, List.filterMap_nil, List.getElem?_cons_zero, List.getElem?_cons_succ]
  ((with_reducible apply E_run); rfl; rfl; (intro w M; go_simp; (try go_ints); (try simp only [↓IntWalk.iteOmega]); (try with_reducible rfl)); simp only [Act.put, List.setIfInBounds_toArray, List.set_cons_zero, List.set_cons_succ])
  ((with_reducible apply E_run); rfl; rfl; (intro w M; go_simp; (try go_ints); (try simp only [↓IntWalk.iteOmega]); (try with_reducible rfl)); simp only [Act.put, List.setIfInBounds_toArray, List.set_cons_zero, List.set_cons_succ])
  ((with_reducible apply E_run); rfl; rfl; (intro w M; go_simp; (try go_ints); (try simp only [↓IntWalk.iteOmega]); (try with_reducible rfl)); simp only [Act.put, List.setIfInBounds_toArray, List.set_cons_zero, List.set_cons_succ])
  ((with_reducible apply E_no); rfl; simp only [Act.put, List.setIfInBounds_toArray, List.set_cons_zero, List.set_cons_succ])
  ((with_reducible apply E_no); rfl; simp only [Act.put, List.setIfInBounds_toArray, List.set_cons_zero, List.set_cons_succ])
  ((with_reducible apply E_no); rfl; simp only [Act.put, List.setIfInBounds_toArray, List.set_cons_zero, List.set_cons_succ])
  ((with_reducible apply E_no); rfl; simp only [Act.put, List.setIfInBounds_toArray, List.set_cons_zero, List.set_cons_succ])
  ((with_reducible apply E_no); rfl; simp only [Act.put, List.setIfInBounds_toArray, List.set_cons_zero, List.set_cons_succ])
  ((with_reducible apply E_no); rfl; simp only [Act.put, List.setIfInBounds_toArray, List.set_cons_zero, List.set_cons_succ])
  ((with_reducible apply E_no); rfl; simp only [Act.put, List.setIfInBounds_toArray, List.set_cons_zero, List.set_cons_succ])
  ((with_reducible apply E_no); rfl; simp only [Act.put, List.setIfInBounds_toArray, List.set_cons_zero, List.set_cons_succ])
  ((with_reducible apply E_run); rfl; rfl; (intro w M; go_simp; (try go_ints); (try simp only [↓IntWalk.iteOmega]); (try with_reducible rfl)); simp only [Act.put, List.setIfInBounds_toArray, List.set_cons_zero, List.set_cons_succ])
  ((with_reducible apply E_run); rfl; rfl; (intro w M; go_simp; (try go_ints); (try simp only [↓IntWalk.iteOmega]); (try with_reducible rfl)); simp only [Act.put, List.setIfInBounds_toArray, List.set_cons_zero, List.set_cons_succ])
  refine E_nil ?_
  intro w9 K M
  replace HR := hid (HR.out.kept K)
  clear K
  refine S_done ?_
  go_wp2_with fail
  refine S_region (by kernel_rfl) ?_
  replace HR := hid (HR.out.kept (Kept.refl [] _).drew)
  refine E_stage 0 19 [0, 1, 2, 3, 4, 5, 6, 7, 8, 9, 10, 11, 12, 13, 14, 15, 16, 17, 18] (by kernel_rfl) M.drew ?_
  clear M
  simp only [List.filterMap_cons, List.filterMap_nil, List.getElem?_cons_zero, List.getElem?_cons_succ]
  ((with_reducible apply E_run); rfl; rfl; (intro w M; go_simp; (try go_ints); (try simp only [↓IntWalk.iteOmega]); (try with_reducible rfl)); simp only [Act.put, List.setIfInBounds_toArray, List.set_cons_zero, List.set_cons_succ])
  ((with_reducible apply E_run); rfl; rfl; (intro w M; go_simp; (try go_ints); (try simp only [↓IntWalk.iteOmega]); (try with_reducible rfl)); simp only [Act.put, List.setIfInBounds_toArray, List.set_cons_zero, List.set_cons_succ])
  ((with_reducible apply E_run); rfl; rfl; (intro w M; go_simp; (try go_ints); (try simp only [↓IntWalk.iteOmega]); (try with_reducible rfl)); simp only [Act.put, List.setIfInBounds_toArray, List.set_cons_zero, List.set_cons_succ])
  ((with_reducible apply E_no); rfl; simp only [Act.put, List.setIfInBounds_toArray, List.set_cons_zero, List.set_cons_succ])
  ((with_reducible apply E_no); rfl; simp only [Act.put, List.setIfInBounds_toArray, List.set_cons_zero, List.set_cons_succ])
  ((with_reducible apply E_no); rfl; simp only [Act.put, List.setIfInBounds_toArray, List.set_cons_zero, List.set_cons_succ])
  ((with_reducible apply E_no); rfl; simp only [Act.put, List.setIfInBounds_toArray, List.set_cons_zero, List.set_cons_succ])
  ((with_reducible apply E_run); rfl; rfl; (intro w M; go_simp; (try go_ints); (try simp only [↓IntWalk.iteOmega]); (try with_reducible rfl)); simp only [Act.put, List.setIfInBounds_toArray, List.set_cons_zero, List.set_cons_succ])
  ((with_reducible apply E_run); rfl; rfl; (intro w M; go_simp; (try go_ints); (try simp only [↓IntWalk.iteOmega]); (try with_reducible rfl)); simp only [Act.put, List.setIfInBounds_toArray, List.set_cons_zero, List.set_cons_succ])
  ((with_reducible apply E_no); rfl; simp only [Act.put, List.setIfInBounds_toArray, List.set_cons_zero, List.set_cons_succ])
  ((with_reducible apply E_no); rfl; simp only [Act.put, List.setIfInBounds_toArray, List.set_cons_zero, List.set_cons_succ])
  ((with_reducible apply E_no); rfl; simp only [Act.put, List.setIfInBounds_toArray, List.set_cons_zero, List.set_cons_succ])
  ((with_reducible apply E_no); rfl; simp only [Act.put, List.setIfInBounds_toArray, List.set_cons_zero, List.set_cons_succ])
  ((with_reducible apply E_no); rfl; simp only [Act.put, List.setIfInBounds_toArray, List.set_cons_zero, List.set_cons_succ])
  ((with_reducible apply E_no); rfl; simp only [Act.put, List.setIfInBounds_toArray, List.set_cons_zero, List.set_cons_succ])
  ((with_reducible apply E_no); rfl; simp only [Act.put, List.setIfInBounds_toArray, List.set_cons_zero, List.set_cons_succ])
  ((with_reducible apply E_no); rfl; simp only [Act.put, List.setIfInBounds_toArray, List.set_cons_zero, List.set_cons_succ])
  ((with_reducible apply E_run); rfl; rfl; (intro w M; go_simp; (try go_ints); (try simp only [↓IntWalk.iteOmega]); (try with_reducible rfl)); simp only [Act.put, List.setIfInBounds_toArray, List.set_cons_zero, List.set_cons_succ])
  ((with_reducible apply E_run); rfl; rfl; (intro w M; go_simp; (try go_ints); (try simp only [↓IntWalk.iteOmega]); (try with_reducible rfl)); simp only [Act.put, List.setIfInBounds_toArray, List.set_cons_zero, List.set_cons_succ])
  refine E_nil ?_
  intro w9 K M
  replace HR := hid (HR.out.kept K)
  clear K
  refine S_done ?_
  go_wp2_with fail
  go_ret2
  exact ⟨_, rfl, HR.out, M.kept⟩

set_option maxHeartbeats 4000000 in
set_option maxRecDepth 100000 in
theorem refusalD_delegatecall (st : Value) (fb q m G C : Nat) (fs0 : Array Value) (cv mc : Value) (ns : List Nat) (w : World) (hF : FrameQ w fb q fs0 m G ns mc) (hf : FrD fs0 q cv) (hn : 6 ≤ ns.length) (hn2 : ns.length ≤ 40) (hCG : C ≤ G)
    (hC : ∀ w', Kept [] w w' → Calls Salg.prog 183 #[st, .pointer (some ⟨fb, q, none⟩), .int .u8 244] w' fun e w'' => ∃ r, e = .returned r ∧ NumV w'' r C ∧ Kept [] w' w'') :
    Calls Salg.prog 111 #[st, .pointer (some ⟨fb, q, none⟩), .int .u8 244] w fun e w' => ∃ r, e = .returned (.tuple #[.int .u8 0, r]) ∧ NumV w' r C ∧ Kept [] w w' := by
  have M := Mem.start w []
  obtain ⟨fs, pv, gv, sv, xs, hr, hsz, hfs, h3, hpv, h4, hgv, h8, hsv, hxs, hmv⟩ := hF
  have hxl := hxs.1
  obtain ⟨p, n, cp, rfl⟩ := rowV_slice hsv
  obtain rfl : n = xs.length := by
    rcases hsv with ⟨e, e2⟩ | ⟨g, cap, cur, e, _⟩
    · cases e; subst e2; rfl
    · cases e; rfl
  have h2 := (hfs (q + 2) (by omega) (by omega) (by omega) (by omega)).trans hf.f2
  have HG := hid hgv
  have HC := hid hC
  have d1 : decide ((xs.length : Int) < (6 : Int)) = false := by simp <;> omega
  have d2 : decide ((64 : Int) < (xs.length : Int) - (6 : Int) + (1 : Int)) = false := by simp; omega
  have d3 : decide ((64 : Int) < (xs.length : Int) - (6 : Int)) = false := by simp; omega
  have d4 : decide ((64 : Int) < (xs.length : Int)) = false := by simp; omega
  have d5 : decide ((xs.length : Int) < 0) = false := by simp
  clear hgv hC hfs hsv hxs hpv hf hsz hmv h3
  go_enter Salg.func111, Salg.ntmps111
  go_wp2_with fail
  refine (arity_delegatecall _).mono ?_
  rintro e w1 ⟨rfl, hw⟩
  replace hw := hw.symm
  subst hw
  go_wp2_with (first
    | ((with_reducible apply W_loadCell); rfl; exact M.kept.row hr (by simp); exact h8; exact Salg.underlying140; rfl; simp only [Act.put, List.setIfInBounds_toArray, List.set_cons_zero, List.set_cons_succ])
    | ((with_reducible apply W_loadCell); rfl; exact M.kept.row hr (by simp); exact h2; exact Salg.underlying4; rfl; simp only [Act.put, List.setIfInBounds_toArray, List.set_cons_zero, List.set_cons_succ]))
  refine S_region (by kernel_rfl) ?_
  refine E_stage 0 19 [0, 1, 2, 3, 5, 8, 9, 10, 11, 12, 13, 4, 6, 7, 14, 15, 16, 17, 18] (by kernel_rfl) M.drew ?_
  clear M
  simp only [List.filterMap_cons, List.filterMap_nil, List.getElem?_cons_zero, List.getElem?_cons_succ]
  ((with_reducible apply E_run); rfl; rfl; (intro w M; go_simp; (try go_ints); (try simp only [↓IntWalk.iteOmega]); (try with_reducible rfl)); simp only [Act.put, List.setIfInBounds_toArray, List.set_cons_zero, List.set_cons_succ])
  ((with_reducible apply E_run); rfl; rfl; (intro w M; go_simp; (try go_ints); (try simp only [↓IntWalk.iteOmega]); (try with_reducible rfl)); simp only [Act.put, List.setIfInBounds_toArray, List.set_cons_zero, List.set_cons_succ])
  ((with_reducible apply E_run); rfl; rfl; (intro w M; go_simp; (try go_ints); (try simp only [↓IntWalk.iteOmega]); (try with_reducible rfl)); simp only [Act.put, List.setIfInBounds_toArray, List.set_cons_zero, List.set_cons_succ])
  ((with_reducible apply E_no); rfl; simp only [Act.put, List.setIfInBounds_toArray, List.set_cons_zero, List.set_cons_succ])
  ((with_reducible apply E_no); rfl; simp only [Act.put, List.setIfInBounds_toArray, List.set_cons_zero, List.set_cons_succ])
  ((with_reducible apply E_no); rfl; simp only [Act.put, List.setIfInBounds_toArray, List.set_cons_zero, List.set_cons_succ])
  ((with_reducible apply E_no); rfl; simp only [Act.put, List.setIfInBounds_toArray, List.set_cons_zero, List.set_cons_succ])
  ((with_reducible apply E_no); rfl; simp only [Act.put, List.setIfInBounds_toArray, List.set_cons_zero, List.set_cons_succ])
  ((with_reducible apply E_no); rfl; simp only [Act.put, List.setIfInBounds_toArray, List.set_cons_zero, List.set_cons_succ])
  ((with_reducible apply E_no); rfl; simp only [Act.put, List.setIfInBounds_toArray, List.set_cons_zero, List.set_cons_succ])
  ((with_reducible apply E_no); rfl; simp only [Act.put, List.setIfInBounds_toArray, List.set_cons_zero, List.set_cons_succ])
  ((with_reducible apply E_no); rfl; simp only [Act.put, List.setIfInBounds_toArray, List.set_cons_zero, List.set_cons_succ])
  ((with_reducible apply E_no); rfl; simp only [Act.put, List.setIfInBounds_toArray, List.set_cons_zero, List.set_cons_succ])
  ((with_reducible apply E_no); rfl; simp only [Act.put, List.setIfInBounds_toArray, List.set_cons_zero, List.set_cons_succ])
  ((with_reducible apply E_no); rfl; simp only [Act.put, List.setIfInBounds_toArray, List.set_cons_zero, List.set_cons_succ])
  ((with_reducible apply E_no); rfl; simp only [Act.put, List.setIfInBounds_toArray, List.set_cons_zero, List.set_cons_succ])
  ((with_reducible apply E_no); rfl; simp only [Act.put, List.setIfInBounds_toArray, List.set_cons_zero, List.set_cons_succ])
  ((with_reducible apply E_run); rfl; rfl; (intro w M; go_simp; (try go_ints); (try simp only [↓IntWalk.iteOmega]); (try with_reducible rfl)); simp only [Act.put, List.setIfInBounds_toArray, List.set_cons_zero, List.set_cons_succ])
  ((with_reducible apply E_run); rfl; rfl; (intro w M; go_simp; (try go_ints); (try simp only [↓IntWalk.iteOmega]); (try with_reducible rfl)); simp only [Act.put, List.setIfInBounds_toArray, List.set_cons_zero, List.set_cons_succ])
  refine E_nil ?_
  intro w9 K M
  clear K
  refine S_done ?_
  go_wp2_with fail
  refine (HC.out _ M.kept).mono ?_
  rintro e w2 ⟨r, rfl, xHR, K⟩
  have HR := hid xHR
  replace M := M.call K
  clear K xHR
  go_wp2_with ((with_reducible apply W_loadCell); rfl; exact M.kept.row hr (by simp); exact h4; exact Salg.underlying89; rfl; simp only [Act.put, List.setIfInBounds_toArray, List.set_cons_zero, List.set_cons_succ])
  refine (cmp_num r gv C G _ HR.out (HG.out.kept M.kept)).mono ?_
  rintro e w3 ⟨rfl, K⟩
  replace HR := hid (HR.out.kept K)
  replace M := M.call K
  clear K
  have hz : decide ((0 : Int) < cmpI C G) = false := by
    unfold cmpI
    split
    · rfl
    · rw [if_neg (by omega)]; rfl
  go_wp2_with fail
  refine S_region (by kernel_rfl) ?_
  replace HR := hid (HR.out.kept (Kept.refl [] _).drew)
  refine E_stage 0 12 [0, 1, 2, 3, 4, 5, 6, 7, 8, 9, 10, 11] (by kernel_rfl) M.drew ?_
  clear M
  simp only [List.filterMap_cons, List.filterMap_nil, List.getElem?_cons_zero, List.getElem?_cons_succ]
  ((with_reducible apply E_run); rfl; rfl; (intro w M; go_simp; (try go_ints); (try simp only [↓IntWalk.iteOmega]); (try with_reducible rfl)); simp only [Act.put, List.setIfInBounds_toArray, List.set_cons_zero, List.set_cons_succ])
  ((with_reducible apply E_run); rfl; rfl; (intro w M; go_simp; (try go_ints); (try simp only [↓IntWalk.iteOmega]); (try with_reducible rfl)); simp only [Act.put, List.setIfInBounds_toArray, List.set_cons_zero, List.set_cons_succ])
  ((with_reducible apply E_run); rfl; rfl; (intro w M; go_simp; (try go_ints); (try simp only [↓IntWalk.iteOmega]); (try with_reducible rfl)); simp only [Act.put, List.setIfInBounds_toArray, List.set_cons_zero, List.set_cons_succ])
  ((with_reducible apply E_no); rfl; simp only [Act.put, List.setIfInBounds_toArray, List.set_cons_zero, List.set_cons_succ])
  ((with_reducible apply E_no); rfl; simp only [Act.put, List.setIfInBounds_toArray, List.set_cons_zero, List.set_cons_succ])
  ((with_reducible apply E_no); rfl; simp only [Act.put, List.setIfInBounds_toArray, List.set_cons_zero, List.set_cons_succ])
  ((with_reducible apply E_no); rfl; simp only [Act.put, List.setIfInBounds_toArray, List.set_cons_zero, List.set_cons_succ])
  ((with_reducible apply E_no); rfl; simp only [Act.put, List.setIfInBounds_toArray, List.set_cons_zero, List.set_cons_succ])
  ((with_reducible apply E_no); rfl; simp only [Act.put, List.setIfInBounds_toArray, List.set_cons_zero, List.set_cons_succ])
  ((with_reducible apply E_no); rfl; simp only [Act.put, List.setIfInBounds_toArray, List.set_cons_zero, List.set_cons_succ])
  ((with_reducible apply E_run); rfl; rfl; (intro w M; go_simp; (try go_ints); (try simp only [↓IntWalk.iteOmega]); (try with_reducible rfl)); simp only [Act.put, List.setIfInBounds_toArray, List.set_cons_zero, List.set_cons_succ])
  ((with_reducible apply E_run); rfl; rfl; (intro w M; go_simp; (try go_ints); (try simp only [↓IntWalk.iteOmega]); (try with_reducible rfl)); simp only [Act.put, List.setIfInBounds_toArray, List.set_cons_zero, List.set_cons_succ])
  refine E_nil ?_
  intro w9 K M
  replace HR := hid (HR.out.kept K)
  clear K
  refine S_done ?_
  go_wp2_with fail
  refine S_region (by kernel_rfl) ?_
  replace HR := hid (HR.out.kept (Kept.refl [] _).drew)
  refine E_stage 0 13 [0, 1, 2, 3, 4, 5, 6, 7, 8, 9, 10, 11, 12] (by kernel_rfl) M.drew ?_
  clear M
  simp only [List.filterMap_cons, List.filterMap_nil, List.getElem?_cons_zero, List.getElem?_cons_succ]
  ((with_reducible apply E_run); rfl; rfl; (intro w M; go_simp; (try go_ints); (try simp only [↓IntWalk.iteOmega]); (try with_reducible rfl)); simp only [Act.put, List.setIfInBounds_toArray, List.set_cons_zero, List.set_cons_succ])
  ((with_reducible apply E_run); rfl; rfl; (intro w M; go_simp; (try go_ints); (try simp only [↓IntWalk.iteOmega]); (try with_reducible rfl)); simp only [Act.put, List.setIfInBounds_toArray, List.set_cons_zero, List.set_cons_succ])
  ((with_reducible apply E_run); rfl; rfl; (intro w M; go_simp; (try go_ints); (try simp only [↓IntWalk.iteOmega]); (try with_reducible rfl)); simp only [Act.put, List.setIfInBounds_toArray, List.set_cons_zero, List.set_cons_succ])
  ((with_reducible apply E_no); rfl; simp only [Act.put, List.setIfInBounds_toArray, List.set_cons_zero, List.set_cons_succ])
  ((with_reducible apply E_no); rfl; simp only [Act.put, List.setIfInBounds_toArray, List.set_cons_zero, List.set_cons_succ])
  ((with_reducible apply E_no); rfl; simp only [Act.put, List.setIfInBounds_toArray, List.set_cons_zero, List.set_cons_succ])
  ((with_reducible apply E_no); rfl; simp only [Act.put, List.setIfInBounds_toArray, List.set_cons_zero, List.set_cons_succ])
  ((with_reducible apply E_no); rfl; simp only [Act.put, List.setIfInBounds_toArray, List.set_cons_zero, List.set_cons_succ])
  ((with_reducible apply E_no); rfl; simp only [Act.put, List.setIfInBounds_toArray, List.set_cons_zero, List.set_cons_succ])
  ((with_reducible apply E_no); rfl; simp only [Act.put, List.setIfInBounds_toArray, List.set_cons_zero, List.set_cons_succ])
  ((with_reducible apply E_no); rfl; simp only [Act.put, List.setIfInBounds_toArray, List.set_cons_zero, List.set_cons_succ])
  ((with_reducible apply E_run); rfl; rfl; (intro w M; go_simp; (try go_ints); (try simp only [↓IntWalk.iteOmega]); (try with_reducible rfl)); simp only [Act.put, List.setIfInBounds_toArray, List.set_cons_zero, List.set_cons_succ])
  ((with_reducible apply E_run); rfl; rfl; (intro w M; go_simp; (try go_ints); (try simp only [↓IntWalk.iteOmega]); (try with_reducible rfl)); simp only [Act.put, List.setIfInBounds_toArray, List.set_cons_zero, List.set_cons_succ])
  refine E_nil ?_
  intro w9 K M
  replace HR := hid (HR.out.kept K)
  clear K
  refine S_done ?_
  go_wp2_with fail
  refine S_region (by kernel_rfl) ?_
  replace HR := hid (HR.out.kept (Kept.refl [] _).drew)
  refine E_stage 0 19 [0, 1, 2, 3, 4, 5, 6, 7, 8, 9, 10, 11, 12, 13, 14, 15, 16, 17, 18] (by kernel_rfl) M.drew ?_
  clear M
  simp only [List.filterMap_cons, List.filterMap_nil, List.getElem?_cons_zero, List.getElem?_cons_succ]
  ((with_reducible apply E_run); rfl; rfl; (intro w M; go_simp; (try go_ints); (try simp only [↓IntWalk.iteOmega]); (try with_reducible rfl)); simp only [Act.put, List.setIfInBounds_toArray, List.set_cons_zero, List.set_cons_succ])
  ((with_reducible apply E_run); rfl; rfl; (intro w M; go_simp; (try go_ints); (try simp only [↓IntWalk.iteOmega]); (try with_reducible rfl)); simp only [Act.put, List.setIfInBounds_toArray, List.set_cons_zero, List.set_cons_succ])
  ((with_reducible apply E_run); rfl; rfl; (intro w M; go_simp; (try go_ints); (try simp only [↓IntWalk.iteOmega]); (try with_reducible rfl)); simp only [Act.put, List.setIfInBounds_toArray, List.set_cons_zero, List.set_cons_succ])
  ((with_reducible apply E_no); rfl; simp only [Act.put, List.setIfInBounds_toArray, List.set_cons_zero, List.set_cons_succ])
  ((with_reducible apply E_no); rfl; simp only [Act.put, List.setIfInBounds_toArray, List.set_cons_zero, List.set_cons_succ])
  ((with_reducible apply E_no); rfl; simp only [Act.put, List.setIfInBounds_toArray, List.set_cons_zero, List.set_cons_succ])
  ((with_reducible apply E_no); rfl; simp only [Act.put, List.setIfInBounds_toArray, List.set_cons_zero, List.set_cons_succ])
  ((with_reducible apply E_run); rfl; rfl; (intro w M; go_simp; (try go_ints); (try simp only [↓IntWalk.iteOmega]); (try with_reducible rfl)); simp only [Act.put, List.setIfInBounds_toArray, List.set_cons_zero, List.set_cons_succ])
  ((with_reducible apply E_run); rfl; rfl; (intro w M; go_simp; (try go_ints); (try simp only [↓IntWalk.iteOmega]); (try with_reducible rfl)); simp only [Act.put, List.setIfInBounds_toArray, List.set_cons_zero, List.set_cons_succ])
  ((with_reducible apply E_no); rfl; simp only [Act.put, List.setIfInBounds_toArray, List.set_cons_zero, List.set_cons_succ])
  ((with_reducible apply E_no); rfl; simp only [Act.put, List.setIfInBounds_toArray, List.set_cons_zero, List.set_cons_succ])
  ((with_reducible apply E_no); rfl; simp only [Act.put, List.setIfInBounds_toArray, List.set_cons_zero, List.set_cons_succ])
  ((with_reducible apply E_no); rfl; simp only [Act.put, List.setIfInBounds_toArray, List.set_cons_zero, List.set_cons_succ])
  ((with_reducible apply E_no); rfl; simp only [Act.put, List.setIfInBounds_toArray, List.set_cons_zero, List.set_cons_succ])
  ((with_reducible apply E_no); rfl; simp only [Act.put, List.setIfInBounds_toArray, List.set_cons_zero, List.set_cons_succ])
  ((with_reducible apply E_no); rfl; simp only [Act.put, List.setIfInBounds_toArray, List.set_cons_zero, List.set_cons_succ])
  ((with_reducible apply E_no); rfl; simp only [Act.put, List.setIfInBounds_toArray, List.set_cons_zero, List.set_cons_succ])
  ((with_reducible apply E_run); rfl; rfl; (intro w M; go_simp; (try go_ints); (try simp only [↓IntWalk.iteOmega]); (try with_reducible rfl)); simp only [Act.put, List.setIfInBounds_toArray, List.set_cons_zero, List.set_cons_succ])
  ((with_reducible apply E_run); rfl; rfl; (intro w M; go_simp; (try go_ints); (try simp only [↓IntWalk.iteOmega]); (try with_reducible rfl)); simp only [Act.put, List.setIfInBounds_toArray, List.set_cons_zero, List.set_cons_succ])
  refine E_nil ?_
  intro w9 K M
  replace HR := hid (HR.out.kept K)
  clear K
  refine S_done ?_
  go_wp2_with fail
  go_ret2
  exact ⟨_, rfl, HR.out, M.kept⟩

set_option maxHeartbeats 4000000 in
set_option maxRecDepth 100000 in
theorem refusalD_staticcall (st : Value) (fb q m G C : Nat) (fs0 : Array Value) (cv mc : Value) (ns : List Nat) (w : World) (hF : FrameQ w fb q fs0 m G ns mc) (hf : FrD fs0 q cv) (hn : 6 ≤ ns.length) (hn2 : ns.length ≤ 40) (hCG : C ≤ G)
    (hC : ∀ w', Kept [] w w' → Calls Salg.prog 183 #[st, .pointer (some ⟨fb, q, none⟩), .int .u8 250] w' fun e w'' => ∃ r, e = .returned r ∧ NumV w'' r C ∧ Kept [] w' w'') :
    Calls Salg.prog 111 #[st, .pointer (some ⟨fb, q, none⟩), .int .u8 250] w fun e w' => ∃ r, e = .returned (.tuple #[.int .u8 0, r]) ∧ NumV w' r C ∧ Kept [] w w' := by
  have M := Mem.start w []
  obtain ⟨fs, pv, gv, sv, xs, hr, hsz, hfs, h3, hpv, h4, hgv, h8, hsv, hxs, hmv⟩ := hF
  have hxl := hxs.1
  obtain ⟨p, n, cp, rfl⟩ := rowV_slice hsv
  obtain rfl : n = xs.length := by
    rcases hsv with ⟨e, e2⟩ | ⟨g, cap, cur, e, _⟩
    · cases e; subst e2; rfl
    · cases e; rfl
  have h2 := (hfs (q + 2) (by omega) (by omega) (by omega) (by omega)).trans hf.f2
  have HG := hid hgv
  have HC := hid hC
  have d1 : decide ((xs.length : Int) < (6 : Int)) = false := by simp <;> omega
  have d2 : decide ((64 : Int) < (xs.length : Int) - (6 : Int) + (1 : Int)) = false := by simp; omega
  have d3 : decide ((64 : Int) < (xs.length : Int) - (6 : Int)) = false := by simp; omega
  have d4 : decide ((64 : Int) < (xs.length : Int)) = false := by simp; omega
  have d5 : decide ((xs.length : Int) < 0) = false := by simp
  clear hgv hC hfs hsv hxs hpv hf hsz hmv h3
  go_enter Salg.func111, Salg.ntmps111
  go_wp2_with fail
  refine (arity_staticcall _).mono ?_
  rintro e w1 ⟨rfl, hw⟩
  replace hw := hw.symm
  subst hw
  go_wp2_with (first
    | ((with_reducible apply W_loadCell); rfl; exact M.kept.row hr (by simp); exact h8; exact Salg.underlying140; rfl; simp only [Act.put, List.setIfInBounds_toArray, List.set_cons_zero, List.set_cons_succ])
    | ((with_reducible apply W_loadCell); rfl; exact M.kept.row hr (by simp); exact h2; exact Salg.underlying4; rfl; simp only [Act.put, List.setIfInBounds_toArray, List.set_cons_zero, List.set_cons_succ]))
  refine S_region (by kernel_rfl) ?_
  refine E_stage 0 19 [0, 1, 2, 3, 5, 8, 9, 10, 11, 12, 13, 4, 6, 7, 14, 15, 16, 17, 18] (by kernel_rfl) M.drew ?_
  clear M
  simp only [List.filterMap_cons, List.filterMap_nil, List.getElem?_cons_zero, List.getElem?_cons_succ]
  ((with_reducible apply E_run); rfl; rfl; (intro w M; go_simp; (try go_ints); (try simp only [↓IntWalk.iteOmega]); (try with_reducible rfl)); simp only [Act.put, List.setIfInBounds_toArray, List.set_cons_zero, List.set_cons_succ])
  ((with_reducible apply E_run); rfl; rfl; (intro w M; go_simp; (try go_ints); (try simp only [↓IntWalk.iteOmega]); (try with_reducible rfl)); simp only [Act.put, List.setIfInBounds_toArray, List.set_cons_zero, List.set_cons_succ])
  ((with_reducible apply E_run); rfl; rfl; (intro w M; go_simp; (try go_ints); (try simp only [↓IntWalk.iteOmega]); (try with_reducible rfl)); simp only [Act.put, List.setIfInBounds_toArray, List.set_cons_zero, List.set_cons_succ])
  ((with_reducible apply E_no); rfl; simp only [Act.put, List.setIfInBounds_toArray, List.set_cons_zero, List.set_cons_succ])
  ((with_reducible apply E_no); rfl; simp only [Act.put, List.setIfInBounds_toArray, List.set_cons_zero, List.set_cons_succ])
  ((with_reducible apply E_no); rfl; simp only [Act.put, List.setIfInBounds_toArray, List.set_cons_zero, List.set_cons_succ])
  ((with_reducible apply E_no); rfl; simp only [Act.put, List.setIfInBounds_toArray, List.set_cons_zero, List.set_cons_succ])
  ((with_reducible apply E_no); rfl; simp only [Act.put, List.setIfInBounds_toArray, List.set_cons_zero, List.set_cons_succ])
  ((with_reducible apply E_no); rfl; simp only [Act.put, List.setIfInBounds_toArray, List.set_cons_zero, List.set_cons_succ])
  ((with_reducible apply E_no); rfl; simp only [Act.put, List.setIfInBounds_toArray, List.set_cons_zero, List.set_cons_succ])
  ((with_reducible apply E_no); rfl; simp only [Act.put, List.setIfInBounds_toArray, List.set_cons_zero, List.set_cons_succ])
  ((with_reducible apply E_no); rfl; simp only [Act.put, List.setIfInBounds_toArray, List.set_cons_zero, List.set_cons_succ])
  ((with_reducible apply E_no); rfl; simp only [Act.put, List.setIfInBounds_toArray, List.set_cons_zero, List.set_cons_succ])
  ((with_reducible apply E_no); rfl; simp only [Act.put, List.setIfInBounds_toArray, List.set_cons_zero, List.set_cons_succ])
  ((with_reducible apply E_no); rfl; simp only [Act.put, List.setIfInBounds_toArray, List.set_cons_zero, List.set_cons_succ])
  ((with_reducible apply E_no); rfl; simp only [Act.put, List.setIfInBounds_toArray, List.set_cons_zero, List.set_cons_succ])
  ((with_reducible apply E_no); rfl; simp only [Act.put, List.setIfInBounds_toArray, List.set_cons_zero, List.set_cons_succ])
  ((with_reducible apply E_run); rfl; rfl; (intro w M; go_simp; (try go_ints); (try simp only [↓IntWalk.iteOmega]); (try with_reducible rfl)); simp only [Act.put, List.setIfInBounds_toArray, List.set_cons_zero, List.set_cons_succ])
  ((with_reducible apply E_run); rfl; rfl; (intro w M; go_simp; (try go_ints); (try simp only [↓IntWalk.iteOmega]); (try with_reducible rfl)); simp only [Act.put, List.setIfInBounds_toArray, List.set_cons_zero, List.set_cons_succ])
  refine E_nil ?_
  intro w9 K M
  clear K
  refine S_done ?_
  go_wp2_with fail
  refine (HC.out _ M.kept).mono ?_
  rintro e w2 ⟨r, rfl, xHR, K⟩
  have HR := hid xHR
  replace M := M.call K
  clear K xHR
  go_wp2_with ((with_reducible apply W_loadCell); rfl; exact M.kept.row hr (by simp); exact h4; exact Salg.underlying89; rfl; simp only [Act.put, List.setIfInBounds_toArray, List.set_cons_zero, List.set_cons_succ])
  refine (cmp_num r gv C G _ HR.out (HG.out.kept M.kept)).mono ?_
  rintro e w3 ⟨rfl, K⟩
  replace HR := hid (HR.out.kept K)
  replace M := M.call K
  clear K
  have hz : decide ((0 : Int) < cmpI C G) = false := by
    unfold cmpI
    split
    · rfl
    · rw [if_neg (by omega)]; rfl
  go_wp2_with fail
  refine S_region (by kernel_rfl) ?_
  replace HR := hid (HR.out.kept (Kept.refl [] _).drew)
  refine E_stage 0 12 [0, 1, 2, 3, 4, 5, 6, 7, 8, 9, 10, 11] (by kernel_rfl) M.drew ?_
  clear M
  simp only [List.filterMap_cons, List.filterMap_nil, List.getElem?_cons_zero, List.getElem?_cons_succ]
  ((with_reducible apply E_run); rfl; rfl; (intro w M; go_simp; (try go_ints); (try simp only [↓IntWalk.iteOmega]); (try with_reducible rfl)); simp only [Act.put, List.setIfInBounds_toArray, List.set_cons_zero, List.set_cons_succ])
  ((with_reducible apply E_run); rfl; rfl; (intro w M; go_simp; (try go_ints); (try simp only [↓IntWalk.iteOmega]); (try with_reducible rfl)); simp only [Act.put, List.setIfInBounds_toArray, List.set_cons_zero, List.set_cons_succ])
  ((with_reducible apply E_run); rfl; rfl; (intro w M; go_simp; (try go_ints); (try simp only [↓IntWalk.iteOmega]); (try with_reducible rfl)); simp only [Act.put, List.setIfInBounds_toArray, List.set_cons_zero, List.set_cons_succ])
  ((with_reducible apply E_no); rfl; simp only [Act.put, List.setIfInBounds_toArray, List.set_cons_zero, List.set_cons_succ])
  ((with_reducible apply E_no); rfl; simp only [Act.put, List.setIfInBounds_toArray, List.set_cons_zero, List.set_cons_succ])
  ((with_reducible apply E_no); rfl; simp only [Act.put, List.setIfInBounds_toArray, List.set_cons_zero, List.set_cons_succ])
  ((with_reducible apply E_no); rfl; simp only [Act.put, List.setIfInBounds_toArray, List.set_cons_zero, List.set_cons_succ])
  ((with_reducible apply E_no); rfl; simp only [Act.put, List.setIfInBounds_toArray, List.set_cons_zero, List.set_cons_succ])
  ((with_reducible apply E_no); rfl; simp only [Act.put, List.setIfInBounds_toArray, List.set_cons_zero, List.set_cons_succ])
  ((with_reducible apply E_no); rfl; simp only [Act.put, List.setIfInBounds_toArray, List.set_cons_zero, List.set_cons_succ])
  ((with_reducible apply E_run); rfl; rfl; (intro w M; go_simp; (try go_ints); (try simp only [↓IntWalk.iteOmega]); (try with_reducible rfl)); simp only [Act.put, List.setIfInBounds_toArray, List.set_cons_zero, List.set_cons_succ])
  ((with_reducible apply E_run); rfl; rfl; (intro w M; go_simp; (try go_ints); (try simp only [↓IntWalk.iteOmega]); (try with_reducible rfl)); simp only [Act.put, List.setIfInBounds_toArray, List.set_cons_zero, List.set_cons_succ])
  refine E_nil ?_
  intro w9 K M
  replace HR := hid (HR.out.kept K)
  clear K
  refine S_done ?_
  go_wp2_with fail
  refine S_region (by kernel_rfl) ?_
  replace HR := hid (HR.out.kept (Kept.refl [] _).drew)
  refine E_stage 0 13 [0, 1, 2, 3, 4, 5, 6, 7, 8, 9, 10, 11, 12] (by kernel_rfl) M.drew ?_
  clear M
  simp only [List.filterMap_cons, List.filterMap_nil, List.getElem?_cons_zero, List.getElem?_cons_succ]
  ((with_reducible apply E_run); rfl; rfl; (intro w M; go_simp; (try go_ints); (try simp only [↓IntWalk.iteOmega]); (try with_reducible rfl)); simp only [Act.put, List.setIfInBounds_toArray, List.set_cons_zero, List.set_cons_succ])
  ((with_reducible apply E_run); rfl; rfl; (intro w M; go_simp; (try go_ints); (try simp only [↓IntWalk.iteOmega]); (try with_reducible rfl)); simp only [Act.put, List.setIfInBounds_toArray, List.set_cons_zero, List.set_cons_succ])
  ((with_reducible apply E_run); rfl; rfl; (intro w M; go_simp; (try go_ints); (try simp only [↓IntWalk.iteOmega]); (try with_reducible rfl)); simp only [Act.put, List.setIfInBounds_toArray, List.set_cons_zero, List.set_cons_succ])
  ((with_reducible apply E_no); rfl; simp only [Act.put, List.setIfInBounds_toArray, List.set_cons_zero, List.set_cons_succ])
  ((with_reducible apply E_no); rfl; simp only [Act.put, List.setIfInBounds_toArray, List.set_cons_zero, List.set_cons_succ])
  ((with_reducible apply E_no); rfl; simp only [Act.put, List.setIfInBounds_toArray, List.set_cons_zero, List.set_cons_succ])
  ((with_reducible apply E_no); rfl; simp only [Act.put, List.setIfInBounds_toArray, List.set_cons_zero, List.set_cons_succ])
  ((with_reducible apply E_no); rfl; simp only [Act.put, List.setIfInBounds_toArray, List.set_cons_zero, List.set_cons_succ])
  ((with_reducible apply E_no); rfl; simp only [Act.put, List.setIfInBounds_toArray, List.set_cons_zero, List.set_cons_succ])
  ((with_reducible apply E_no); rfl; simp only [Act.put, List.setIfInBounds_toArray, List.set_cons_zero, List.set_cons_succ])
  ((with_reducible apply E_no); rfl; simp only [Act.put, List.setIfInBounds_toArray, List.set_cons_zero, List.set_cons_succ])
  ((with_reducible apply E_run); rfl; rfl; (intro w M; go_simp; (try go_ints); (try simp only [↓IntWalk.iteOmega]); (try with_reducible rfl)); simp only [Act.put, List.setIfInBounds_toArray, List.set_cons_zero, List.set_cons_succ])
  ((with_reducible apply E_run); rfl; rfl; (intro w M; go_simp; (try go_ints); (try simp only [↓IntWalk.iteOmega]); (try with_reducible rfl)); simp only [Act.put, List.setIfInBounds_toArray, List.set_cons_zero, List.set_cons_succ])
  refine E_nil ?_
  intro w9 K M
  replace HR := hid (HR.out.kept K)
  clear K
  refine S_done ?_
  go_wp2_with fail
  refine S_region (by kernel_rfl) ?_
  replace HR := hid (HR.out.kept (Kept.refl [] _).drew)
  refine E_stage 0 19 [0, 1, 2, 3, 4, 5, 6, 7, 8, 9, 10, 11, 12, 13, 14, 15, 16, 17, 18] (by kernel_rfl) M.drew ?_
  clear M
  simp only [List.filterMap_cons, List.filterMap_nil, List.getElem?_cons_zero, List.getElem?_cons_succ]
  ((with_reducible apply E_run); rfl; rfl; (intro w M; go_simp; (try go_ints); (try simp only [↓IntWalk.iteOmega]); (try with_reducible rfl)); simp only [Act.put, List.setIfInBounds_toArray, List.set_cons_zero, List.set_cons_succ])
  ((with_reducible apply E_run); rfl; rfl; (intro w M; go_simp; (try go_ints); (try simp only [↓IntWalk.iteOmega]); (try with_reducible rfl)); simp only [Act.put, List.setIfInBounds_toArray, List.set_cons_zero, List.set_cons_succ])
  ((with_reducible apply E_run); rfl; rfl; (intro w M; go_simp; (try go_ints); (try simp only [↓IntWalk.iteOmega]); (try with_reducible rfl)); simp only [Act.put, List.setIfInBounds_toArray, List.set_cons_zero, List.set_cons_succ])
  ((with_reducible apply E_no); rfl; simp only [Act.put, List.setIfInBounds_toArray, List.set_cons_zero, List.set_cons_succ])
  ((with_reducible apply E_no); rfl; simp only [Act.put, List.setIfInBounds_toArray, List.set_cons_zero, List.set_cons_succ])
  ((with_reducible apply E_no); rfl; simp only [Act.put, List.setIfInBounds_toArray, List.set_cons_zero, List.set_cons_succ])
  ((with_reducible apply E_no); rfl; simp only [Act.put, List.setIfInBounds_toArray, List.set_cons_zero, List.set_cons_succ])
  ((with_reducible apply E_run); rfl; rfl; (intro w M; go_simp; (try go_ints); (try simp only [↓IntWalk.iteOmega]); (try with_reducible rfl)); simp only [Act.put, List.setIfInBounds_toArray, List.set_cons_zero, List.set_cons_succ])
  ((with_reducible apply E_run); rfl; rfl; (intro w M; go_simp; (try go_ints); (try simp only [↓IntWalk.iteOmega]); (try with_reducible rfl)); simp only [Act.put, List.setIfInBounds_toArray, List.set_cons_zero, List.set_cons_succ])
  ((with_reducible apply E_no); rfl; simp only [Act.put, List.setIfInBounds_toArray, List.set_cons_zero, List.set_cons_succ])
  ((with_reducible apply E_no); rfl; simp only [Act.put, List.setIfInBounds_toArray, List.set_cons_zero, List.set_cons_succ])
  ((with_reducible apply E_no); rfl; simp only [Act.put, List.setIfInBounds_toArray, List.set_cons_zero, List.set_cons_succ])
  ((with_reducible apply E_no); rfl; simp only [Act.put, List.setIfInBounds_toArray, List.set_cons_zero, List.set_cons_succ])
  ((with_reducible apply E_no); rfl; simp only [Act.put, List.setIfInBounds_toArray, List.set_cons_zero, List.set_cons_succ])
  ((with_reducible apply E_no); rfl; simp only [Act.put, List.setIfInBounds_toArray, List.set_cons_zero, List.set_cons_succ])
  ((with_reducible apply E_no); rfl; simp only [Act.put, List.setIfInBounds_toArray, List.set_cons_zero, List.set_cons_succ])
  ((with_reducible apply E_no); rfl; simp only [Act.put, List.setIfInBounds_toArray, List.set_cons_zero, List.set_cons_succ])
  ((with_reducible apply E_run); rfl; rfl; (intro w M; go_simp; (try go_ints); (try simp only [↓IntWalk.iteOmega]); (try with_reducible rfl)); simp only [Act.put, List.setIfInBounds_toArray, List.set_cons_zero, List.set_cons_succ])
  ((with_reducible apply E_run); rfl; rfl; (intro w M; go_simp; (try go_ints); (try simp only [↓IntWalk.iteOmega]); (try with_reducible rfl)); simp only [Act.put, List.setIfInBounds_toArray, List.set_cons_zero, List.set_cons_succ])
  refine E_nil ?_
  intro w9 K M
  replace HR := hid (HR.out.kept K)
  clear K
  refine S_done ?_
  go_wp2_with fail
  go_ret2
  exact ⟨_, rfl, HR.out, M.kept⟩
end Go.Proofs.YgcsalGreat

/-
  The walks of u256.Rem512 and law.remHolds.
-/
import Derived.Test.YgcsalPathAll
set_option linter.unusedSimpArgs false
namespace Go.Proofs.Ygcsal
open Go.RowKit Go.Own

set_option maxHeartbeats 2000000 in
set_option maxRecDepth 100000 in
theorem rem512_any (xs vs : List Nat) (w : World) (hx : xs.length = 8) (hv : vs.length = 4) (hLx : Limbs xs) (hLv : Limbs vs) :
    Calls Salg.prog 28 #[A64 xs, A64 vs] w fun e w' => e = .returned (.tuple #[A64 (nl 4 (remN (lval xs) (lval vs))), A8 (pathL (lval xs) (lval vs))]) ∧ Kept [] w w' := by
  have M := Mem.start w []
  have HDV := hid (fun (b : Nat) (w : World) (h : w.heap[b]? = some (R64 52 xs)) => divide_any b 52 xs vs w h hx hv hLx hLv)
  have hrl := nl_length 4 (remN (lval xs) (lval vs))
  have hpl : (pathL (lval xs) (lval vs)).length = 3 := rfl
  generalize nl 4 (remN (lval xs) (lval vs)) = r4 at *
  generalize pathL (lval xs) (lval vs) = p3 at *
  clear hLx hLv
  go_enter Salg.func28, Salg.ntmps28
  go_wp2_with (first
    | ((with_reducible apply L_box (d := 2) M); rfl; clear M; intro b1 w1 hb1 M; simp only [Act.put, List.setIfInBounds_toArray, List.set_cons_zero, List.set_cons_succ])
    | ((with_reducible apply L_box (d := 3) M); rfl; clear M; intro b2 w1 hb2 M; simp only [Act.put, List.setIfInBounds_toArray, List.set_cons_zero, List.set_cons_succ])
    | ((with_reducible apply L_allocA M); exact zero25; clear M; intro b3 w1 hb3 M; simp only [Act.put, List.setIfInBounds_toArray, List.set_cons_zero, List.set_cons_succ])
    | ((with_reducible apply L_allocA M); exact zero46; clear M; intro b4 w1 hb4 M; simp only [Act.put, List.setIfInBounds_toArray, List.set_cons_zero, List.set_cons_succ])
    | ((with_reducible apply W_loadAll); rfl; (first | with_reducible exact M.r0 | with_reducible exact M.r1 | with_reducible exact M.r2 | with_reducible exact M.r3 | with_reducible exact M.r4 | with_reducible exact M.r5 | with_reducible exact M.r6 | assumption | exact M.kept.row (by assumption) (by simp)); exact Salg.underlying25; rfl; (first | with_reducible exact size25 | (rw [size25]; simp [hv])); simp only [Act.put, List.setIfInBounds_toArray, List.set_cons_zero, List.set_cons_succ]))
  refine (HDV.out b1 _ M.r3).mono ?_
  rintro e w4 ⟨rfl, K, hr3⟩
  replace M := Mem.callPut (L1 := [_, _, _]) M (Or.inr (by assumption)) K hr3
  simp only [List.cons_append, List.nil_append] at M
  clear K hr3 HDV
  go_wp2_with (first
    | ((with_reducible apply W_storeK (b := b3)); rfl; rfl; exact M.r1; exact size25; (simp [hrl]); exact one64 _; intro w3 K hr3; replace M := Mem.callPut (L1 := [_]) M (Or.inr (by assumption)) K hr3; clear K hr3; simp only [List.cons_append, List.nil_append] at M)
    | ((with_reducible apply W_storeK (b := b4)); rfl; rfl; exact M.r0; exact size46; (simp [hpl]); exact one8 _; intro w3 K hr3; replace M := Mem.callPut (L1 := []) M (Or.inr (by assumption)) K hr3; clear K hr3; simp only [List.cons_append, List.nil_append] at M))
  exact ret_cell2 Salg.results28 rfl M.r1 Salg.underlying25 rfl (by rw [size25]; simp [hrl]) rfl M.r0 Salg.underlying46 rfl (by rw [size46]; simp [hpl]) rfl ⟨rfl, M.kept⟩

set_option maxHeartbeats 2000000 in
set_option maxRecDepth 100000 in
theorem remHolds_any (v u : Value) (X V : Nat) (w : World) (hX : NumV w v X) (hV : NumV w u V) (hXl : X < 18446744073709551616 ^ 8) (hVl : V < 18446744073709551616 ^ 4) :
    Calls Salg.prog 29 #[v, u, A64 (nl 4 (remN X V)), A8 (pathL X V)] w fun e w' => e = .returned (.bool true) ∧ Kept [] w w' := by
  have M := Mem.start w []
  have HX := hid hX
  have HV := hid hV
  have HPA := hid (fun (w : World) (h1 : NumV w v X) (h2 : NumV w u V) => path_any v u X V w h1 h2 hXl hVl)
  have HDM := hid (fun (w : World) (h1 : NumV w v X) (h2 : NumV w u V) => divMod_all v u X V w h1 h2 (Nat.lt_of_lt_of_le hXl (show (18446744073709551616 : Nat) ^ 8 ≤ 256 ^ 200 by decide)) (Nat.lt_of_lt_of_le hVl (show (18446744073709551616 : Nat) ^ 4 ≤ 256 ^ 200 by decide)))
  have hr : lval (nl 4 (remN X V)) = remN X V := by
    rw [nl_lval, Nat.mod_eq_of_lt]
    unfold remN
    split
    · decide
    · rename_i h
      exact Nat.lt_trans (Nat.mod_lt _ (by omega)) hVl
  rw [← hr] at HDM
  have HRL := hid (nl_limbs 4 (remN X V))
  have hrl := nl_length 4 (remN X V)
  clear hX hV hXl hVl hr
  generalize nl 4 (remN X V) = r4 at *
  obtain ⟨pa, pb, pc, hp⟩ : ∃ a b c, pathL X V = [a, b, c] := ⟨_, _, _, rfl⟩
  rw [hp] at HPA ⊢
  clear hp
  go_enter Salg.func29, Salg.ntmps29
  go_wp2_with (first
    | ((with_reducible apply L_box (d := 6) M); rfl; clear M; intro b1 w1 hb1 M; simp only [Act.put, List.setIfInBounds_toArray, List.set_cons_zero, List.set_cons_succ])
    | ((with_reducible apply L_box (d := 7) M); rfl; clear M; intro b2 w1 hb2 M; simp only [Act.put, List.setIfInBounds_toArray, List.set_cons_zero, List.set_cons_succ]))
  refine (HDM.out _ (HX.out.kept M.kept) (HV.out.kept M.kept)).mono ?_
  rintro e w4 ⟨QN, RN, bo, rfl, xHQ, xHR, K⟩
  have HQ := hid xHQ
  have HR := hid xHR
  replace M := M.call K
  clear K xHQ xHR
  clear HDM HQ
  replace HX := hid (HX.out.kept M.kept)
  replace HV := hid (HV.out.kept M.kept)
  go_wp2_with fail
  refine S_region (by kernel_rfl) ?_
  have M5 : Mem w4 [] [(b2, R8 46 [pa, pb, pc]), (b1, R64 25 r4)] w4 := ((Mem.start w4 []).add M.r1 (by simp)).add M.r0 (by simp; exact M.ne01)
  refine V_quiet 0 11 (by kernel_rfl) (by decide) M5.drew ?_
  clear M5
  simp only [List.take_succ_cons, List.take_zero, List.drop_zero, List.drop_succ_cons, Nat.sub_zero, Nat.reduceSub]
  ((with_reducible apply V_run); rfl; (intro w M; exact run_loadAll (by (first | with_reducible exact M.r0 | with_reducible exact M.r1 | with_reducible exact M.r2 | with_reducible exact M.r3 | with_reducible exact M.r4 | with_reducible exact M.r5 | with_reducible exact M.r6 | assumption | exact M.kept.row (by assumption) (by simp))) rfl Salg.underlying25 rfl (by first | with_reducible exact size25 | (rw [size25]; simp [hrl]))); simp only [Act.put, List.setIfInBounds_toArray, List.set_cons_zero, List.set_cons_succ])
  ((with_reducible apply V_run); rfl; (intro w M; go_simp; (try go_ints); (try simp only [↓IntWalk.iteOmega]); (try with_reducible rfl)); simp only [Act.put, List.setIfInBounds_toArray, List.set_cons_zero, List.set_cons_succ])
  refine V_call rfl Salg.func34 (by kernel_rfl) (by kernel_rfl) (args := [A64 r4, RN]) rfl (fun w M5 => isNat_yes r4 RN w hrl HRL.out (HR.out.kept M5.kept)) ?_
  simp only [Act.put, List.setIfInBounds_toArray, List.set_cons_zero, List.set_cons_succ]
  ((with_reducible apply V_run); rfl; (intro w M; go_simp; (try go_ints); (try simp only [↓IntWalk.iteOmega]); (try with_reducible rfl)); simp only [Act.put, List.setIfInBounds_toArray, List.set_cons_zero, List.set_cons_succ])
  ((with_reducible apply V_run); rfl; (intro w M; exact run_loadAll (by (first | with_reducible exact M.r0 | with_reducible exact M.r1 | with_reducible exact M.r2 | with_reducible exact M.r3 | with_reducible exact M.r4 | with_reducible exact M.r5 | with_reducible exact M.r6 | assumption | exact M.kept.row (by assumption) (by simp))) rfl Salg.underlying46 rfl (by first | with_reducible exact size46 | (rw [size46]; simp []))); simp only [Act.put, List.setIfInBounds_toArray, List.set_cons_zero, List.set_cons_succ])
  ((with_reducible apply V_run); rfl; (intro w M; go_simp; (try go_ints); (try simp only [↓IntWalk.iteOmega]); (try with_reducible rfl)); simp only [Act.put, List.setIfInBounds_toArray, List.set_cons_zero, List.set_cons_succ])
  ((with_reducible apply V_run); rfl; (intro w M; go_simp; (try go_ints); (try simp only [↓IntWalk.iteOmega]); (try with_reducible rfl)); simp only [Act.put, List.setIfInBounds_toArray, List.set_cons_zero, List.set_cons_succ])
  refine V_call rfl Salg.func44 (by kernel_rfl) (by kernel_rfl) (args := [v, u]) rfl (fun w M5 => HPA.out w (HX.out.kept M5.kept) (HV.out.kept M5.kept)) ?_
  simp only [Act.put, List.setIfInBounds_toArray, List.set_cons_zero, List.set_cons_succ]
  ((with_reducible apply V_run); rfl; (intro w M; go_simp; (try go_ints); (try simp only [↓IntWalk.iteOmega]); (try with_reducible rfl)); simp only [Act.put, List.setIfInBounds_toArray, List.set_cons_zero, List.set_cons_succ])
  ((with_reducible apply V_run); rfl; (intro w M; go_simp; (try go_ints); (try simp only [↓IntWalk.iteOmega]); (try with_reducible rfl)); simp only [Act.put, List.setIfInBounds_toArray, List.set_cons_zero, List.set_cons_succ])
  ((with_reducible apply V_run); rfl; (intro w M; go_simp; (try go_ints); (try simp only [↓IntWalk.iteOmega]); (try with_reducible rfl)); simp only [Act.put, List.setIfInBounds_toArray, List.set_cons_zero, List.set_cons_succ])
  refine V_nil ?_
  intro w5 M5
  replace M := M.call M5.kept
  refine S_done ?_
  go_wp2_with fail
  go_ret
  exact ⟨rfl, M.kept⟩
end Go.Proofs.Ygcsal

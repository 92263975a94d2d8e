/-
  law.DivRounds: the walks of divRoundsHolds and DivRounds.
-/
import Derived.Test.YgcsalPathAll
import Derived.Test.YgcsalLate
set_option linter.unusedSimpArgs false
namespace Go.Proofs.Ygcsal
open Go.RowKit Go.Own

set_option maxHeartbeats 4000000 in
set_option maxRecDepth 100000 in
theorem divRoundsHolds_any (xs ys : List Nat) (w : World) (hx : xs.length = 32) (hy : ys.length = 32) (hsx : Small xs) (hsy : Small ys) :
    Calls Salg.prog 22 #[A8 xs, A8 ys, A64 (nl 4 (be xs / be ys)), A64 (nl 4 (remN (be xs) (be ys))), A8 (pathL (be xs) (be ys))] w fun e w' => e = .returned (.bool true) ∧ Kept [] w w' := by
  have M := Mem.start w []
  have hX := be_small_lt hsx
  rw [hx] at hX
  have hY := be_small_lt hsy
  rw [hy] at hY
  have HFX := hid (fun (b : Nat) (w : World) (h : w.heap[b]? = some (R8 22 xs)) => fromBE_any b 22 xs w h (by omega) hsx)
  rw [hx] at HFX
  have HFY := hid (fun (b : Nat) (w : World) (h : w.heap[b]? = some (R8 22 ys)) => fromBE_any b 22 ys w h (by omega) hsy)
  rw [hy] at HFY
  have HPA := hid (fun (v u : Value) (w : World) (h1 : NumV w v (be xs)) (h2 : NumV w u (be ys)) => path_any v u _ _ w h1 h2 (Nat.lt_of_lt_of_le hX (by decide)) hY)
  have hq : lval (nl 4 (be xs / be ys)) = be xs / be ys := by
    rw [nl_lval, Nat.mod_eq_of_lt]; exact Nat.lt_of_le_of_lt (Nat.div_le_self _ _) hX
  have hr : lval (nl 4 (remN (be xs) (be ys))) = remN (be xs) (be ys) := by
    rw [nl_lval, Nat.mod_eq_of_lt]
    unfold remN
    split
    · decide
    · exact Nat.lt_of_le_of_lt (Nat.mod_le _ _) hX
  have HDM := hid (fun (v u : Value) (w : World) (h1 : NumV w v (be xs)) (h2 : NumV w u (be ys)) => divMod_all v u _ _ w h1 h2 (Nat.lt_of_lt_of_le hX (show (256 : Nat) ^ 32 ≤ 256 ^ 200 by decide)) (Nat.lt_of_lt_of_le hY (show (256 : Nat) ^ 32 ≤ 256 ^ 200 by decide)))
  rw [← hq, ← hr] at HDM
  have HQL := hid (nl_limbs 4 (be xs / be ys))
  have HRL := hid (nl_limbs 4 (remN (be xs) (be ys)))
  have hql := nl_length 4 (be xs / be ys)
  have hrl := nl_length 4 (remN (be xs) (be ys))
  clear hX hY hq hr hsx hsy
  generalize nl 4 (be xs / be ys) = q4 at *
  generalize nl 4 (remN (be xs) (be ys)) = r4 at *
  obtain ⟨pa, pb, pc, hp⟩ : ∃ a b c, pathL (be xs) (be ys) = [a, b, c] := ⟨_, _, _, rfl⟩
  rw [hp] at HPA ⊢
  clear hp
  generalize be xs = X at *
  generalize be ys = Y at *
  go_enter Salg.func22, Salg.ntmps22
  go_wp2_with (first
    | ((with_reducible apply L_box (d := 5) M); rfl; clear M; intro b1 w1 hb1 M; simp only [Act.put, List.setIfInBounds_toArray, List.set_cons_zero, List.set_cons_succ])
    | ((with_reducible apply L_box (d := 6) M); rfl; clear M; intro b2 w1 hb2 M; simp only [Act.put, List.setIfInBounds_toArray, List.set_cons_zero, List.set_cons_succ])
    | ((with_reducible apply L_box (d := 7) M); rfl; clear M; intro b3 w1 hb3 M; simp only [Act.put, List.setIfInBounds_toArray, List.set_cons_zero, List.set_cons_succ])
    | ((with_reducible apply L_box (d := 8) M); rfl; clear M; intro b4 w1 hb4 M; simp only [Act.put, List.setIfInBounds_toArray, List.set_cons_zero, List.set_cons_succ])
    | ((with_reducible apply L_box (d := 9) M); rfl; clear M; intro b5 w1 hb5 M; simp only [Act.put, List.setIfInBounds_toArray, List.set_cons_zero, List.set_cons_succ])
    | ((with_reducible apply W_sliceArr (l := 0) (h := 32) (m := 32)); rfl; exact Salg.underlying22; exact size5; (first | exact Or.inl ⟨rfl, rfl⟩ | exact Or.inr ⟨_, _, _, rfl, rfl, by omega⟩); (first | exact Or.inl ⟨rfl, rfl⟩ | exact Or.inr ⟨_, _, _, rfl, rfl, by omega⟩); (first | exact Or.inl ⟨rfl, rfl⟩ | exact Or.inr ⟨_, _, _, rfl, rfl, by omega⟩); (first | exact Or.inl rfl | exact Or.inr rfl); omega; omega; omega; omega; (try simp only [Nat.zero_add, Nat.sub_zero]); simp only [Act.put, List.setIfInBounds_toArray, List.set_cons_zero, List.set_cons_succ]))
  refine (HFX.out b1 _ M.r4).mono ?_
  rintro e w2 ⟨XN, rfl, xHX, K⟩
  have HX := hid xHX
  replace M := M.call K
  clear K xHX
  go_wp2_with ((with_reducible apply W_sliceArr (l := 0) (h := 32) (m := 32)); rfl; exact Salg.underlying22; exact size5; (first | exact Or.inl ⟨rfl, rfl⟩ | exact Or.inr ⟨_, _, _, rfl, rfl, by omega⟩); (first | exact Or.inl ⟨rfl, rfl⟩ | exact Or.inr ⟨_, _, _, rfl, rfl, by omega⟩); (first | exact Or.inl ⟨rfl, rfl⟩ | exact Or.inr ⟨_, _, _, rfl, rfl, by omega⟩); (first | exact Or.inl rfl | exact Or.inr rfl); omega; omega; omega; omega; (try simp only [Nat.zero_add, Nat.sub_zero]); simp only [Act.put, List.setIfInBounds_toArray, List.set_cons_zero, List.set_cons_succ])
  refine (HFY.out b2 _ M.r3).mono ?_
  rintro e w3 ⟨YN, rfl, xHY, K⟩
  have HY := hid xHY
  replace HX := hid (HX.out.kept K)
  replace M := M.call K
  clear K xHY
  go_wp2_with fail
  refine (HDM.out _ _ _ HX.out HY.out).mono ?_
  rintro e w4 ⟨QN, RN, bo, rfl, xHQ, xHR, K⟩
  have HQ := hid xHQ
  have HR := hid xHR
  replace HX := hid (HX.out.kept K)
  replace HY := hid (HY.out.kept K)
  replace M := M.call K
  clear K xHQ xHR
  clear HFX HFY HDM
  go_wp2_with fail
  refine S_region (by kernel_rfl) ?_
  have M5 : Mem w4 [] [(b5, R8 46 [pa, pb, pc]), (b4, R64 25 r4), (b3, R64 25 q4)] w4 := (((Mem.start w4 []).add M.r2 (by simp)).add M.r1 (by simp; exact (M.tail).ne01)).add M.r0 (by simp; have := M.apart; simp only [List.map_cons, List.pairwise_cons] at this; exact ⟨this.1 b4 (by simp), this.1 b3 (by simp)⟩)
  refine V_quiet 0 16 (by kernel_rfl) (by decide) M5.drew ?_
  clear M5
  simp only [List.take_succ_cons, List.take_zero, List.drop_zero, List.drop_succ_cons, Nat.sub_zero, Nat.reduceSub]
  ((with_reducible apply V_run); rfl; (intro w M; exact run_loadAll (by (first | with_reducible exact M.r0 | with_reducible exact M.r1 | with_reducible exact M.r2 | with_reducible exact M.r3 | with_reducible exact M.r4 | with_reducible exact M.r5 | with_reducible exact M.r6 | assumption | exact M.kept.row (by assumption) (by simp))) rfl Salg.underlying25 rfl (by first | with_reducible exact size25 | (rw [size25]; simp [hql]))); simp only [Act.put, List.setIfInBounds_toArray, List.set_cons_zero, List.set_cons_succ])
  ((with_reducible apply V_run); rfl; (intro w M; go_simp; (try go_ints); (try simp only [↓IntWalk.iteOmega]); (try with_reducible rfl)); simp only [Act.put, List.setIfInBounds_toArray, List.set_cons_zero, List.set_cons_succ])
  refine V_call rfl Salg.func34 (by kernel_rfl) (by kernel_rfl) (args := [A64 q4, QN]) rfl (fun w M5 => isNat_yes q4 QN w hql HQL.out (HQ.out.kept M5.kept)) ?_
  simp only [Act.put, List.setIfInBounds_toArray, List.set_cons_zero, List.set_cons_succ]
  ((with_reducible apply V_run); rfl; (intro w M; go_simp; (try go_ints); (try simp only [↓IntWalk.iteOmega]); (try with_reducible rfl)); simp only [Act.put, List.setIfInBounds_toArray, List.set_cons_zero, List.set_cons_succ])
  ((with_reducible apply V_run); rfl; (intro w M; exact run_loadAll (by (first | with_reducible exact M.r0 | with_reducible exact M.r1 | with_reducible exact M.r2 | with_reducible exact M.r3 | with_reducible exact M.r4 | with_reducible exact M.r5 | with_reducible exact M.r6 | assumption | exact M.kept.row (by assumption) (by simp))) rfl Salg.underlying25 rfl (by first | with_reducible exact size25 | (rw [size25]; simp [hrl]))); simp only [Act.put, List.setIfInBounds_toArray, List.set_cons_zero, List.set_cons_succ])
  ((with_reducible apply V_run); rfl; (intro w M; go_simp; (try go_ints); (try simp only [↓IntWalk.iteOmega]); (try with_reducible rfl)); simp only [Act.put, List.setIfInBounds_toArray, List.set_cons_zero, List.set_cons_succ])
  refine V_call rfl Salg.func34 (by kernel_rfl) (by kernel_rfl) (args := [A64 r4, RN]) rfl (fun w M5 => isNat_yes r4 RN w hrl HRL.out (HR.out.kept M5.kept)) ?_
  simp only [Act.put, List.setIfInBounds_toArray, List.set_cons_zero, List.set_cons_succ]
  ((with_reducible apply V_run); rfl; (intro w M; go_simp; (try go_ints); (try simp only [↓IntWalk.iteOmega]); (try with_reducible rfl)); simp only [Act.put, List.setIfInBounds_toArray, List.set_cons_zero, List.set_cons_succ])
  ((with_reducible apply V_run); rfl; (intro w M; go_simp; (try go_ints); (try simp only [↓IntWalk.iteOmega]); (try with_reducible rfl)); simp only [Act.put, List.setIfInBounds_toArray, List.set_cons_zero, List.set_cons_succ])
  ((with_reducible apply V_run); rfl; (intro w M; exact run_loadAll (by (first | with_reducible exact M.r0 | with_reducible exact M.r1 | with_reducible exact M.r2 | with_reducible exact M.r3 | with_reducible exact M.r4 | with_reducible exact M.r5 | with_reducible exact M.r6 | assumption | exact M.kept.row (by assumption) (by simp))) rfl Salg.underlying46 rfl (by first | with_reducible exact size46 | (rw [size46]; simp []))); simp only [Act.put, List.setIfInBounds_toArray, List.set_cons_zero, List.set_cons_succ])
  ((with_reducible apply V_run); rfl; (intro w M; go_simp; (try go_ints); (try simp only [↓IntWalk.iteOmega]); (try with_reducible rfl)); simp only [Act.put, List.setIfInBounds_toArray, List.set_cons_zero, List.set_cons_succ])
  ((with_reducible apply V_run); rfl; (intro w M; go_simp; (try go_ints); (try simp only [↓IntWalk.iteOmega]); (try with_reducible rfl)); simp only [Act.put, List.setIfInBounds_toArray, List.set_cons_zero, List.set_cons_succ])
  refine V_call rfl Salg.func44 (by kernel_rfl) (by kernel_rfl) (args := [XN, YN]) rfl (fun w M5 => HPA.out _ _ w (HX.out.kept M5.kept) (HY.out.kept M5.kept)) ?_
  simp only [Act.put, List.setIfInBounds_toArray, List.set_cons_zero, List.set_cons_succ]
  ((with_reducible apply V_run); rfl; (intro w M; go_simp; (try go_ints); (try simp only [↓IntWalk.iteOmega]); (try with_reducible rfl)); simp only [Act.put, List.setIfInBounds_toArray, List.set_cons_zero, List.set_cons_succ])
  ((with_reducible apply V_run); rfl; (intro w M; go_simp; (try go_ints); (try simp only [↓IntWalk.iteOmega]); (try with_reducible rfl)); simp only [Act.put, List.setIfInBounds_toArray, List.set_cons_zero, List.set_cons_succ])
  ((with_reducible apply V_run); rfl; (intro w M; go_simp; (try go_ints); (try simp only [↓IntWalk.iteOmega]); (try with_reducible rfl)); simp only [Act.put, List.setIfInBounds_toArray, List.set_cons_zero, List.set_cons_succ])
  refine V_nil ?_
  intro w5 M5
  replace M := M.call M5.kept
  refine S_done ?_
  go_wp2_with fail
  go_ret
  exact ⟨rfl, M.kept⟩

set_option maxHeartbeats 4000000 in
set_option maxRecDepth 100000 in
theorem divRounds_any (xs ys : List Nat) (w : World) (hx : xs.length = 32) (hy : ys.length = 32) (hsx : Small xs) (hsy : Small ys) :
    Calls Salg.prog 7 #[A8 xs, A8 ys] w fun e w' => e = .returned (.bool true) ∧ Kept [] w w' := by
  have M := Mem.start w []
  have HFX := hid (fun w => fromBytes_any xs w hx hsx)
  have HFY := hid (fun w => fromBytes_any ys w hy hsy)
  have HDR := hid (fun w => divRem_any (limbs4 xs) (limbs4 ys) w rfl rfl (limbs4_limbs xs hsx) (limbs4_limbs ys hsy))
  rw [be_limbs4 hx, be_limbs4 hy] at HDR
  have HH := hid (fun w => divRoundsHolds_any xs ys w hx hy hsx hsy)
  have hql := nl_length 4 (be xs / be ys)
  have hrl := nl_length 4 (remN (be xs) (be ys))
  have hpl : (pathL (be xs) (be ys)).length = 3 := rfl
  generalize nl 4 (be xs / be ys) = q4 at *
  generalize nl 4 (remN (be xs) (be ys)) = r4 at *
  generalize pathL (be xs) (be ys) = p3 at *
  generalize limbs4 xs = xl at *
  generalize limbs4 ys = yl at *
  go_enter Salg.func7, Salg.ntmps7
  go_wp2_with (first
    | ((with_reducible apply L_box (d := 2) M); rfl; clear M; intro b1 w1 hb1 M; simp only [Act.put, List.setIfInBounds_toArray, List.set_cons_zero, List.set_cons_succ])
    | ((with_reducible apply L_box (d := 3) M); rfl; clear M; intro b2 w1 hb2 M; simp only [Act.put, List.setIfInBounds_toArray, List.set_cons_zero, List.set_cons_succ]))
  refine S_region (by kernel_rfl) ?_
  refine S_nrml ?_
  refine S_late 7 (by kernel_rfl) ?_
  refine S_late 8 (by kernel_rfl) ?_
  simp only [List.map_cons, List.map_nil, bind1]
  refine V_stage 0 9 12 (fun i => if i = 11 then R8 46 (List.replicate 3 0) else R64 25 (List.replicate 4 0)) (by kernel_rfl) (by decide) (by decide)
    (by intro i h1 h2; rcases (by omega : i = 9 ∨ i = 10 ∨ i = 11) with rfl | rfl | rfl; exact ⟨5, 25, _, _, _, _, rfl, zero25, rfl⟩; exact ⟨6, 25, _, _, _, _, rfl, zero25, rfl⟩; exact ⟨7, 46, _, _, _, _, rfl, zero46, rfl⟩) M.drew ?_
  clear M
  simp only [List.take_succ_cons, List.take_zero, List.drop_zero, List.drop_succ_cons, Nat.sub_zero, Nat.reduceSub]
  ((with_reducible apply V_run); rfl; (intro w M; exact run_loadAll (by (first | with_reducible exact M.r0 | with_reducible exact M.r1 | with_reducible exact M.r2 | with_reducible exact M.r3 | with_reducible exact M.r4 | with_reducible exact M.r5 | with_reducible exact M.r6 | assumption | exact M.kept.row (by assumption) (by simp))) rfl Salg.underlying22 rfl (by first | with_reducible exact size22 | (rw [size22]; simp [hx]))); simp only [Act.put, List.setIfInBounds_toArray, List.set_cons_zero, List.set_cons_succ])
  refine V_call rfl Salg.func10 (by kernel_rfl) (by kernel_rfl) (args := [A8 xs]) rfl (fun w M => HFX.out w) ?_
  simp only [Act.put, List.setIfInBounds_toArray, List.set_cons_zero, List.set_cons_succ]
  ((with_reducible apply V_run); rfl; (intro w M; exact run_loadAll (by (first | with_reducible exact M.r0 | with_reducible exact M.r1 | with_reducible exact M.r2 | with_reducible exact M.r3 | with_reducible exact M.r4 | with_reducible exact M.r5 | with_reducible exact M.r6 | assumption | exact M.kept.row (by assumption) (by simp))) rfl Salg.underlying22 rfl (by first | with_reducible exact size22 | (rw [size22]; simp [hy]))); simp only [Act.put, List.setIfInBounds_toArray, List.set_cons_zero, List.set_cons_succ])
  refine V_call rfl Salg.func10 (by kernel_rfl) (by kernel_rfl) (args := [A8 ys]) rfl (fun w M => HFY.out w) ?_
  simp only [Act.put, List.setIfInBounds_toArray, List.set_cons_zero, List.set_cons_succ]
  refine V_call rfl Salg.func21 (by kernel_rfl) (by kernel_rfl) (args := [A64 xl, A64 yl]) rfl (fun w M => HDR.out w) ?_
  simp only [Act.put, List.setIfInBounds_toArray, List.set_cons_zero, List.set_cons_succ]
  ((with_reducible apply V_run); rfl; (intro w M; go_simp; (try go_ints); (try simp only [↓IntWalk.iteOmega]); (try with_reducible rfl)); simp only [Act.put, List.setIfInBounds_toArray, List.set_cons_zero, List.set_cons_succ])
  ((with_reducible apply V_run); rfl; (intro w M; go_simp; (try go_ints); (try simp only [↓IntWalk.iteOmega]); (try with_reducible rfl)); simp only [Act.put, List.setIfInBounds_toArray, List.set_cons_zero, List.set_cons_succ])
  ((with_reducible apply V_run); rfl; (intro w M; go_simp; (try go_ints); (try simp only [↓IntWalk.iteOmega]); (try with_reducible rfl)); simp only [Act.put, List.setIfInBounds_toArray, List.set_cons_zero, List.set_cons_succ])
  ((with_reducible apply V_run); rfl; (intro w M; go_simp; (try go_ints); (try simp only [↓IntWalk.iteOmega]); (try with_reducible rfl)); simp only [Act.put, List.setIfInBounds_toArray, List.set_cons_zero, List.set_cons_succ])
  refine V_nil ?_
  intro bl w3 hbl M
  have hb5 := hbl 9 (by decide) (by decide)
  have hb6 := hbl 10 (by decide) (by decide)
  have hb7 := hbl 11 (by decide) (by decide)
  simp only [Nat.reduceSub, List.range', newRows, List.map_cons, List.map_nil, List.reverse_cons, List.reverse_nil, List.nil_append, List.cons_append, Nat.reduceAdd, Nat.reduceEqDiff, if_true, if_false] at M
  simp only [Nat.reduceSub, List.range', puts, if_true, dstOf, Nat.reduceAdd, List.getElem?_cons_succ, List.getElem?_cons_zero, Option.bind_some]
  simp only [Act.put, List.setIfInBounds_toArray, List.set_cons_zero, List.set_cons_succ]
  generalize bl 9 = b5 at *
  generalize bl 10 = b6 at *
  generalize bl 11 = b7 at *
  clear hbl
  refine S_seg 12 15 (by kernel_rfl) (by decide) ?_
  simp only [List.take_succ_cons, List.take_zero, List.drop_zero, List.drop_succ_cons, Nat.sub_zero, Nat.reduceSub]
  go_wp2_with (first
    | ((with_reducible apply W_storeK (b := b5)); rfl; rfl; exact M.r2; exact size25; (simp [hql]); exact one64 _; intro w3 K hr3; replace M := Mem.callPut (L1 := [_, _]) M (Or.inr (by assumption)) K hr3; clear K hr3; simp only [List.cons_append, List.nil_append] at M)
    | ((with_reducible apply W_storeK (b := b6)); rfl; rfl; exact M.r1; exact size25; (simp [hrl]); exact one64 _; intro w3 K hr3; replace M := Mem.callPut (L1 := [_]) M (Or.inr (by assumption)) K hr3; clear K hr3; simp only [List.cons_append, List.nil_append] at M)
    | ((with_reducible apply W_storeK (b := b7)); rfl; rfl; exact M.r0; exact size46; (simp [hpl]); exact one8 _; intro w3 K hr3; replace M := Mem.callPut (L1 := []) M (Or.inr (by assumption)) K hr3; clear K hr3; simp only [List.cons_append, List.nil_append] at M))
  refine S_done ?_
  refine ⟨rfl, ?_⟩
  go_wp2_with (first
    | ((with_reducible apply W_loadAll); rfl; (first | with_reducible exact M.r0 | with_reducible exact M.r1 | with_reducible exact M.r2 | with_reducible exact M.r3 | with_reducible exact M.r4 | with_reducible exact M.r5 | with_reducible exact M.r6 | assumption | exact M.kept.row (by assumption) (by simp)); exact Salg.underlying22; rfl; (first | with_reducible exact size22 | (rw [size22]; simp [hx, hy])); simp only [Act.put, List.setIfInBounds_toArray, List.set_cons_zero, List.set_cons_succ])
    | ((with_reducible apply W_loadAll); rfl; (first | with_reducible exact M.r0 | with_reducible exact M.r1 | with_reducible exact M.r2 | with_reducible exact M.r3 | with_reducible exact M.r4 | with_reducible exact M.r5 | with_reducible exact M.r6 | assumption | exact M.kept.row (by assumption) (by simp)); exact Salg.underlying25; rfl; (first | with_reducible exact size25 | (rw [size25]; simp [hql, hrl])); simp only [Act.put, List.setIfInBounds_toArray, List.set_cons_zero, List.set_cons_succ])
    | ((with_reducible apply W_loadAll); rfl; (first | with_reducible exact M.r0 | with_reducible exact M.r1 | with_reducible exact M.r2 | with_reducible exact M.r3 | with_reducible exact M.r4 | with_reducible exact M.r5 | with_reducible exact M.r6 | assumption | exact M.kept.row (by assumption) (by simp)); exact Salg.underlying46; rfl; (first | with_reducible exact size46 | (rw [size46]; simp [hpl])); simp only [Act.put, List.setIfInBounds_toArray, List.set_cons_zero, List.set_cons_succ]))
  refine (HH.out _).mono ?_
  rintro e w9 ⟨rfl, K⟩
  replace M := M.call K
  clear K
  go_wp2_with fail
  go_ret
  exact ⟨rfl, M.kept⟩
end Go.Proofs.Ygcsal

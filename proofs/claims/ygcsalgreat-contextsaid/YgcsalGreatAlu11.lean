/-
  The walk of u256's MulOver.
-/
import Derived.Test.YgcsalGreatAlu10
import Derived.Test.YgcsalGreatOne
set_option linter.unusedSimpArgs false
namespace Go.Proofs.YgcsalGreat
open Go.RowKit Go.Own

set_option maxHeartbeats 2000000 in
set_option maxRecDepth 100000 in
theorem wMulOver (xs ys : List Nat) (w : World) (hx : xs.length = 4) (hy : ys.length = 4) (hLx : Limbs xs) (hLy : Limbs ys) :
    Calls Salg.prog 69 #[A64 xs, A64 ys] w fun e w' => e = .returned (.tuple #[A64 (nl 4 (lval xs * lval ys)), .bool (decide (18446744073709551616 ^ 4 ≤ lval xs * lval ys))]) ∧ Kept [] w w' := by
  have M := Mem.start w []
  have HC := hid (fun w => mul512_any xs ys w hx hy hLx hLy)
  have h1 := lval_lt hLx
  have h2 := lval_lt hLy
  rw [hx] at h1
  rw [hy] at h2
  have hZ : lval xs * lval ys < 18446744073709551616 ^ 8 := by
    have := Nat.mul_lt_mul'' h1 h2
    rwa [← Nat.pow_add] at this
  generalize lval xs * lval ys = Z at *
  clear h1 h2 hLx hLy
  have hv := nl_lval 8 Z
  rw [Nat.mod_eq_of_lt hZ] at hv
  have hL := nl_limbs 8 Z
  have h4 : nl 4 Z = (nl 8 Z).take 4 := rfl
  obtain ⟨p0, p1, p2, p3, p4, p5, p6, p7, hp⟩ : ∃ p0 p1 p2 p3 p4 p5 p6 p7, nl 8 Z = [p0, p1, p2, p3, p4, p5, p6, p7] := ⟨_, _, _, _, _, _, _, _, rfl⟩
  rw [hp] at HC hv hL h4
  rw [h4, show List.take 4 [p0, p1, p2, p3, p4, p5, p6, p7] = [p0, p1, p2, p3] from rfl]
  have hlo := lval_lt (xs := [p0, p1, p2, p3]) (fun z hz => hL z (by simp at hz ⊢; omega))
  rw [show [p0, p1, p2, p3].length = 4 from rfl] at hlo
  have hsp : lval [p0, p1, p2, p3, p4, p5, p6, p7] = lval [p0, p1, p2, p3] + 18446744073709551616 ^ 4 * lval [p4, p5, p6, p7] := by
    simp only [lval, Nat.mul_zero, Nat.add_zero]
    omega
  have q4 : p4 < 18446744073709551616 := hL _ (by simp)
  have q5 : p5 < 18446744073709551616 := hL _ (by simp)
  have q6 : p6 < 18446744073709551616 := hL _ (by simp)
  have q7 : p7 < 18446744073709551616 := hL _ (by simp)
  have e1 := or_lt q4 q5
  have e2 := or_lt e1 q6
  have HD : Hid ((!(bits .or .u64 (bits .or .u64 (bits .or .u64 (p4 : Int) p5) p6) p7 == 0)) = decide (18446744073709551616 ^ 4 ≤ Z)) := by
    show _ = _
    rw [bits_or_u64_nat p4 p5 q4 q5, bits_or_u64_nat _ p6 e1 q6, bits_or_u64_nat _ p7 e2 q7]
    have hz : lval [p4, p5, p6, p7] = 0 ↔ p4 ||| p5 ||| p6 ||| p7 = 0 := by
      rw [or_zero, or_zero, or_zero]
      simp only [lval, Nat.mul_zero, Nat.add_zero]
      omega
    by_cases h : p4 ||| p5 ||| p6 ||| p7 = 0
    · rw [h]
      have := hz.2 h
      rw [this] at hsp
      rw [decide_eq_false (by omega)]
      rfl
    · have h0 : lval [p4, p5, p6, p7] ≠ 0 := fun h' => h (hz.1 h')
      rw [decide_eq_true (by omega)]
      have : ((p4 ||| p5 ||| p6 ||| p7 : Nat) : Int) ≠ 0 := by omega
      rw [beq_eq_false_iff_ne.2 this]
      rfl
  rw [← HD.out]
  clear HD hsp hlo h4 hp hL hv hZ e1 e2
  go_enter Salg.func69, Salg.ntmps69
  go_wp2_with (first
    | ((with_reducible apply L_box (d := 2) M); rfl; clear M; intro c1 w1 hc1 M; simp only [Act.put, List.setIfInBounds_toArray, List.set_cons_zero, List.set_cons_succ])
    | ((with_reducible apply L_box (d := 3) M); rfl; clear M; intro c2 w1 hc2 M; simp only [Act.put, List.setIfInBounds_toArray, List.set_cons_zero, List.set_cons_succ])
    | ((with_reducible apply L_allocA (d := 4) M); exact zero25; clear M; intro c3 w1 hc3 M; simp only [Act.put, List.setIfInBounds_toArray, List.set_cons_zero, List.set_cons_succ])
    | ((with_reducible apply W_loadAll); rfl; (first | with_reducible exact M.r0 | with_reducible exact M.r1 | with_reducible exact M.r2 | with_reducible exact M.r3 | with_reducible exact M.r4 | with_reducible exact M.r5 | with_reducible exact M.r6 | assumption | exact M.kept.row (by assumption) (by simp)); exact Salg.underlying25; rfl; (first | with_reducible exact size25 | (rw [size25]; simp [hx, hy])); simp only [Act.put, List.setIfInBounds_toArray, List.set_cons_zero, List.set_cons_succ]))
  refine (HC.out _).mono ?_
  rintro e w2 ⟨rfl, K⟩
  replace M := M.call K
  clear K HC
  go_wp2_with (first
    | ((with_reducible apply L_allocA M); exact zero183; clear M; intro c4 w1 hc4 M; simp only [Act.put, List.setIfInBounds_toArray, List.set_cons_zero, List.set_cons_succ])
    | ((with_reducible apply W_storeK (b := c4) (vs := (([p0, p1, p2, p3, p4, p5, p6, p7] : List Nat).map n64).toArray)); rfl; rfl; exact M.r0; exact size183; rfl; exact one64 _; intro w3 K hr3; replace M := Mem.callPut (L1 := []) M (Or.inr (by assumption)) K hr3; clear K hr3; simp only [List.cons_append, List.nil_append] at M))
  replace M := M.perm (List.Perm.swap _ _ _)
  refine S_region (by kernel_rfl) ?_
  refine V_one 0 15 c3 (R64 25 (List.replicate 4 0)) (R64 25 [p0, p1, p2, p3]) _ (by kernel_rfl) (by decide) rfl M.drew ?_
  clear M
  simp only [List.take_succ_cons, List.take_zero, List.drop_zero, List.drop_succ_cons, Nat.sub_zero, Nat.reduceSub]
  ((with_reducible apply V_run); rfl; (intro w M; exact run_sliceArr (l := 0) (h := 4) (m := 8) rfl Salg.underlying183 size23 (by (first | exact Or.inl ⟨rfl, rfl⟩ | exact Or.inr ⟨_, _, _, rfl, rfl, by omega⟩)) (by (first | exact Or.inl ⟨rfl, rfl⟩ | exact Or.inr ⟨_, _, _, rfl, rfl, by omega⟩)) (by (first | exact Or.inl ⟨rfl, rfl⟩ | exact Or.inr ⟨_, _, _, rfl, rfl, by omega⟩)) (by first | exact Or.inl rfl | exact Or.inr rfl) (by omega) (by omega) (by omega) (by omega)); (try simp only [Nat.zero_add, Nat.sub_zero]); simp only [Act.put, List.setIfInBounds_toArray, List.set_cons_zero, List.set_cons_succ])
  ((with_reducible apply V_run); rfl; (intro w M; exact Go.Own.run_arrayAt rfl Salg.underlying25 (by decide)); simp only [Act.put, List.setIfInBounds_toArray, List.set_cons_zero, List.set_cons_succ])
  ((with_reducible apply V_run (v := A64 [p0, p1, p2, p3])); rfl; (intro w M; exact Go.Own.run_load (n := 4) (o := 0) M.r0 rfl Salg.underlying25 rfl size25 (by simp)); simp only [Act.put, List.setIfInBounds_toArray, List.set_cons_zero, List.set_cons_succ])
  ((with_reducible apply V_run); rfl; (intro w M; go_simp; (try go_ints); (try simp only [↓IntWalk.iteOmega]); (try with_reducible rfl)); simp only [Act.put, List.setIfInBounds_toArray, List.set_cons_zero, List.set_cons_succ])
  ((with_reducible apply V_run); rfl; (intro w M; exact run_loadCell (by (first | with_reducible exact M.r0 | with_reducible exact M.r1 | with_reducible exact M.r2 | with_reducible exact M.r3 | with_reducible exact M.r4 | with_reducible exact M.r5 | with_reducible exact M.r6 | assumption | exact M.kept.row (by assumption) (by simp))) rfl (by (first | exact get_map (by assumption) | exact get_map rfl | rfl)) Salg.underlying23 rfl); simp only [Act.put, List.setIfInBounds_toArray, List.set_cons_zero, List.set_cons_succ])
  ((with_reducible apply V_run); rfl; (intro w M; go_simp; (try go_ints); (try simp only [↓IntWalk.iteOmega]); (try with_reducible rfl)); simp only [Act.put, List.setIfInBounds_toArray, List.set_cons_zero, List.set_cons_succ])
  ((with_reducible apply V_run); rfl; (intro w M; exact run_loadCell (by (first | with_reducible exact M.r0 | with_reducible exact M.r1 | with_reducible exact M.r2 | with_reducible exact M.r3 | with_reducible exact M.r4 | with_reducible exact M.r5 | with_reducible exact M.r6 | assumption | exact M.kept.row (by assumption) (by simp))) rfl (by (first | exact get_map (by assumption) | exact get_map rfl | rfl)) Salg.underlying23 rfl); simp only [Act.put, List.setIfInBounds_toArray, List.set_cons_zero, List.set_cons_succ])
  ((with_reducible apply V_run); rfl; (intro w M; go_simp; (try go_ints); (try simp only [↓IntWalk.iteOmega]); (try with_reducible rfl)); simp only [Act.put, List.setIfInBounds_toArray, List.set_cons_zero, List.set_cons_succ])
  ((with_reducible apply V_run); rfl; (intro w M; go_simp; (try go_ints); (try simp only [↓IntWalk.iteOmega]); (try with_reducible rfl)); simp only [Act.put, List.setIfInBounds_toArray, List.set_cons_zero, List.set_cons_succ])
  ((with_reducible apply V_run); rfl; (intro w M; exact run_loadCell (by (first | with_reducible exact M.r0 | with_reducible exact M.r1 | with_reducible exact M.r2 | with_reducible exact M.r3 | with_reducible exact M.r4 | with_reducible exact M.r5 | with_reducible exact M.r6 | assumption | exact M.kept.row (by assumption) (by simp))) rfl (by (first | exact get_map (by assumption) | exact get_map rfl | rfl)) Salg.underlying23 rfl); simp only [Act.put, List.setIfInBounds_toArray, List.set_cons_zero, List.set_cons_succ])
  ((with_reducible apply V_run); rfl; (intro w M; go_simp; (try go_ints); (try simp only [↓IntWalk.iteOmega]); (try with_reducible rfl)); simp only [Act.put, List.setIfInBounds_toArray, List.set_cons_zero, List.set_cons_succ])
  ((with_reducible apply V_run); rfl; (intro w M; go_simp; (try go_ints); (try simp only [↓IntWalk.iteOmega]); (try with_reducible rfl)); simp only [Act.put, List.setIfInBounds_toArray, List.set_cons_zero, List.set_cons_succ])
  ((with_reducible apply V_run); rfl; (intro w M; exact run_loadCell (by (first | with_reducible exact M.r0 | with_reducible exact M.r1 | with_reducible exact M.r2 | with_reducible exact M.r3 | with_reducible exact M.r4 | with_reducible exact M.r5 | with_reducible exact M.r6 | assumption | exact M.kept.row (by assumption) (by simp))) rfl (by (first | exact get_map (by assumption) | exact get_map rfl | rfl)) Salg.underlying23 rfl); simp only [Act.put, List.setIfInBounds_toArray, List.set_cons_zero, List.set_cons_succ])
  ((with_reducible apply V_run); rfl; (intro w M; go_simp; (try go_ints); (try simp only [↓IntWalk.iteOmega]); (try with_reducible rfl)); simp only [Act.put, List.setIfInBounds_toArray, List.set_cons_zero, List.set_cons_succ])
  ((with_reducible apply V_run); rfl; (intro w M; go_simp; (try go_ints); (try simp only [↓IntWalk.iteOmega]); (try with_reducible rfl)); simp only [Act.put, List.setIfInBounds_toArray, List.set_cons_zero, List.set_cons_succ])
  refine V_nil ?_
  refine ⟨rfl, ?_, ?_⟩
  · intro w M
    exact ⟨_, Go.Own.run_storeAll (vs := (([p0, p1, p2, p3] : List Nat).map n64).toArray) M.r0 rfl rfl size25 rfl (one64 _), Mem.put (L1 := []) M (Or.inr hc3) (R64 25 [p0, p1, p2, p3])⟩
  intro w4 M
  (try simp only [Act.put, List.setIfInBounds_toArray, List.set_cons_zero, List.set_cons_succ])
  refine S_seg 16 17 (by kernel_rfl) (by decide) ?_
  simp only [List.take_succ_cons, List.take_zero, List.drop_zero, List.drop_succ_cons, Nat.sub_zero, Nat.reduceSub]
  go_wp2_with fail
  refine S_done ?_
  go_wp2_with fail
  exact ret_ct Salg.results69 rfl M.r0 Salg.underlying25 rfl size25 rfl ⟨rfl, M.kept⟩
end Go.Proofs.YgcsalGreat

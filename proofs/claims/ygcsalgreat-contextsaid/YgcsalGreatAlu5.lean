/-
  The walks of u256: below, AddMod.
-/
import Derived.Test.YgcsalGreatAlu4
set_option linter.unusedSimpArgs false
namespace Go.Proofs.YgcsalGreat
open Go.RowKit Go.Own

set_option maxHeartbeats 2000000 in
set_option maxRecDepth 100000 in
theorem wBelow_no (xs : List Nat) (n : Nat) (w : World) (hx : xs.length = 4) (hLx : Limbs xs) (hbig : 18446744073709551616 ≤ lval xs) :
    Calls Salg.prog 138 #[A64 xs, .int .u64 n] w fun e w' => e = .returned (.tuple #[n64 0, .bool false]) ∧ Kept [] w w' := by
  have M := Mem.start w []
  have HC := hid (fun w => wU64no xs w hx hLx hbig)
  clear hLx hbig
  go_enter Salg.func138, Salg.ntmps138
  go_wp2_with (first
    | ((with_reducible apply L_box (d := 2) M); rfl; clear M; intro c1 w1 hc1 M; simp only [Act.put, List.setIfInBounds_toArray, List.set_cons_zero, List.set_cons_succ])
    | ((with_reducible apply W_loadAll); rfl; (first | with_reducible exact M.r0 | with_reducible exact M.r1 | with_reducible exact M.r2 | with_reducible exact M.r3 | with_reducible exact M.r4 | with_reducible exact M.r5 | with_reducible exact M.r6 | assumption | exact M.kept.row (by assumption) (by simp)); exact Salg.underlying25; rfl; (first | with_reducible exact size25 | (rw [size25]; simp [hx])); simp only [Act.put, List.setIfInBounds_toArray, List.set_cons_zero, List.set_cons_succ]))
  refine (HC.out _).mono ?_
  rintro e w2 ⟨rfl, K⟩
  replace M := M.call K
  clear K HC
  go_wp2_with fail
  go_ret2
  exact ⟨rfl, M.kept⟩

set_option maxHeartbeats 2000000 in
set_option maxRecDepth 100000 in
theorem wBelow_yes (xs : List Nat) (n : Nat) (w : World) (hx : xs.length = 4) (hLx : Limbs xs) (hsm : lval xs < 18446744073709551616) :
    Calls Salg.prog 138 #[A64 xs, .int .u64 n] w fun e w' => e = .returned (.tuple #[n64 (lval xs), .bool (decide (lval xs < n))]) ∧ Kept [] w w' := by
  have M := Mem.start w []
  have HC := hid (fun w => wU64yes xs w hx hLx hsm)
  clear hLx
  generalize lval xs = X at *
  go_enter Salg.func138, Salg.ntmps138
  go_wp2_with (first
    | ((with_reducible apply L_box (d := 2) M); rfl; clear M; intro c1 w1 hc1 M; simp only [Act.put, List.setIfInBounds_toArray, List.set_cons_zero, List.set_cons_succ])
    | ((with_reducible apply W_loadAll); rfl; (first | with_reducible exact M.r0 | with_reducible exact M.r1 | with_reducible exact M.r2 | with_reducible exact M.r3 | with_reducible exact M.r4 | with_reducible exact M.r5 | with_reducible exact M.r6 | assumption | exact M.kept.row (by assumption) (by simp)); exact Salg.underlying25; rfl; (first | with_reducible exact size25 | (rw [size25]; simp [hx])); simp only [Act.put, List.setIfInBounds_toArray, List.set_cons_zero, List.set_cons_succ]))
  refine (HC.out _).mono ?_
  rintro e w2 ⟨rfl, K⟩
  replace M := M.call K
  clear K HC
  go_wp2_with fail
  go_ret2
  exact ⟨by go_num, M.kept⟩

set_option maxHeartbeats 2000000 in
set_option maxRecDepth 100000 in
theorem wAddMod (xs ys ms : List Nat) (w : World) (hx : xs.length = 4) (hy : ys.length = 4) (hm : ms.length = 4) (hLx : Limbs xs) (hLy : Limbs ys) (hLm : Limbs ms) :
    Calls Salg.prog 45 #[A64 xs, A64 ys, A64 ms] w fun e w' => e = .returned (A64 (nl 4 (remN (lval xs + lval ys) (lval ms)))) ∧ Kept [] w w' := by
  have M := Mem.start w []
  have HC := hid (fun w => wAddOver xs ys w hx hy hLx hLy)
  have h1 := lval_lt hLx
  have h2 := lval_lt hLy
  rw [hx] at h1
  rw [hy] at h2
  have hsl := nl_length 4 (lval xs + lval ys)
  have hsL := nl_limbs 4 (lval xs + lval ys)
  have hsv := nl_lval 4 (lval xs + lval ys)
  have hS : lval xs + lval ys < 2 * 18446744073709551616 ^ 4 := by omega
  generalize lval xs + lval ys = S at *
  have hrl := nl_length 4 (remN S (lval ms))
  have hpl : (pathL S (lval ms)).length = 3 := rfl
  obtain ⟨s0, s1, s2, s3, hs4⟩ := four hsl
  rw [hs4] at HC hsL hsv
  clear hsl hs4 hLx hLy
  obtain ⟨k, hk⟩ : ∃ k, k = if 18446744073709551616 ^ 4 ≤ S then 1 else 0 := ⟨_, rfl⟩
  have HRE := hid (fun w => rem512_any [s0, s1, s2, s3, k, 0, 0, 0] ms w rfl hm (by
      intro y hy
      have := hsL
      simp only [List.mem_cons, List.not_mem_nil, or_false] at hy
      rcases hy with rfl | rfl | rfl | rfl | rfl | rfl | rfl | rfl
      · exact this _ (by simp)
      · exact this _ (by simp)
      · exact this _ (by simp)
      · exact this _ (by simp)
      · rw [hk]; split <;> decide
      · decide
      · decide
      · decide) hLm)
  have hv : lval [s0, s1, s2, s3, k, 0, 0, 0] = S := by
    have e : lval [s0, s1, s2, s3, k, 0, 0, 0] = lval [s0, s1, s2, s3] + 18446744073709551616 ^ 4 * k := by
      simp only [lval, Nat.mul_zero, Nat.add_zero]
      omega
    rw [e, hsv, hk]
    split <;> omega
  rw [hv] at HRE
  generalize nl 4 (remN S (lval ms)) = r4 at *
  generalize pathL S (lval ms) = p3 at *
  clear hLm hsL hsv hv hS
  by_cases hov : 18446744073709551616 ^ 4 ≤ S
  · rw [if_pos hov] at hk
    subst hk
    rw [decide_eq_true hov] at HC
    clear hov h1 h2
    go_enter Salg.func45, Salg.ntmps45
    go_wp2_with (first
      | ((with_reducible apply L_box (d := 3) M); rfl; clear M; intro c1 w1 hc1 M; simp only [Act.put, List.setIfInBounds_toArray, List.set_cons_zero, List.set_cons_succ])
      | ((with_reducible apply L_box (d := 4) M); rfl; clear M; intro c2 w1 hc2 M; simp only [Act.put, List.setIfInBounds_toArray, List.set_cons_zero, List.set_cons_succ])
      | ((with_reducible apply L_box (d := 5) M); rfl; clear M; intro c3 w1 hc3 M; simp only [Act.put, List.setIfInBounds_toArray, List.set_cons_zero, List.set_cons_succ])
      | ((with_reducible apply L_allocA (d := 6) M); exact zero25; clear M; intro c4 w1 hc4 M; simp only [Act.put, List.setIfInBounds_toArray, List.set_cons_zero, List.set_cons_succ])
      | ((with_reducible apply W_loadAll); rfl; (first | with_reducible exact M.r0 | with_reducible exact M.r1 | with_reducible exact M.r2 | with_reducible exact M.r3 | with_reducible exact M.r4 | with_reducible exact M.r5 | with_reducible exact M.r6 | assumption | exact M.kept.row (by assumption) (by simp)); exact Salg.underlying25; rfl; (first | with_reducible exact size25 | (rw [size25]; simp [hx, hy])); simp only [Act.put, List.setIfInBounds_toArray, List.set_cons_zero, List.set_cons_succ]))
    refine (HC.out _).mono ?_
    rintro e w2 ⟨rfl, K⟩
    replace M := M.call K
    clear K HC
    go_wp2_with (first
      | ((with_reducible apply L_allocA (d := 7) M); exact zero25; clear M; intro c5 w1 hc5 M; simp only [Act.put, List.setIfInBounds_toArray, List.set_cons_zero, List.set_cons_succ])
      | ((with_reducible apply W_storeK (b := c5)); rfl; rfl; exact M.r0; (first | exact size25 | exact size178); (first | rfl | simp []); (first | exact one64 _ | exact one8 _); intro w3 K hr3; replace M := Mem.callPut (L1 := []) M (Or.inr (by assumption)) K hr3; clear K hr3; simp only [List.cons_append, List.nil_append] at M)
      | ((with_reducible apply W_loadCell); rfl; (first | with_reducible exact M.r0 | with_reducible exact M.r1 | with_reducible exact M.r2 | with_reducible exact M.r3 | with_reducible exact M.r4 | with_reducible exact M.r5 | with_reducible exact M.r6 | assumption | exact M.kept.row (by assumption) (by simp)); (first | exact get_map (by assumption) | exact get_map rfl | rfl); exact Salg.underlying23; rfl; simp only [Act.put, List.setIfInBounds_toArray, List.set_cons_zero, List.set_cons_succ])
      | ((with_reducible apply L_allocA M); exact zero183; clear M; intro c6 w1 hc6 M; simp only [Act.put, List.setIfInBounds_toArray, List.set_cons_zero, List.set_cons_succ])
      | ((with_reducible apply W_storeK (b := c6) (vs := (([s0, s1, s2, s3, 0, 0, 0, 0] : List Nat).map n64).toArray)); rfl; rfl; exact M.r0; exact size183; rfl; exact one64 _; intro w3 K hr3; replace M := Mem.callPut (L1 := []) M (Or.inr (by assumption)) K hr3; clear K hr3; simp only [List.cons_append, List.nil_append] at M)
      | ((with_reducible apply W_st64K (b := c6) (o := 4) (m := 1)); rfl; rfl; rfl; exact M.r0; exact size23; (first | decide | simp); intro w3 K hr3; replace M := Mem.callPut (L1 := []) M (Or.inr (by assumption)) K hr3; clear K hr3; simp only [List.cons_append, List.nil_append, List.set_cons_succ, List.set_cons_zero] at M)
      | ((with_reducible apply W_loadAll); rfl; (first | with_reducible exact M.r0 | with_reducible exact M.r1 | with_reducible exact M.r2 | with_reducible exact M.r3 | with_reducible exact M.r4 | with_reducible exact M.r5 | with_reducible exact M.r6 | assumption | exact M.kept.row (by assumption) (by simp)); exact Salg.underlying183; rfl; (first | with_reducible exact size183 | (rw [size183]; simp [])); simp only [Act.put, List.setIfInBounds_toArray, List.set_cons_zero, List.set_cons_succ])
      | ((with_reducible apply W_loadAll); rfl; (first | with_reducible exact M.r0 | with_reducible exact M.r1 | with_reducible exact M.r2 | with_reducible exact M.r3 | with_reducible exact M.r4 | with_reducible exact M.r5 | with_reducible exact M.r6 | assumption | exact M.kept.row (by assumption) (by simp)); exact Salg.underlying25; rfl; (first | with_reducible exact size25 | (rw [size25]; simp [hm])); simp only [Act.put, List.setIfInBounds_toArray, List.set_cons_zero, List.set_cons_succ]))
    refine (HRE.out _).mono ?_
    rintro e w7 ⟨rfl, K⟩
    replace M := M.call K
    clear K HRE
    go_wp2_with (first
      | ((with_reducible apply L_allocA (d := 10) M); exact zero25; clear M; intro c7 w1 hc7 M; simp only [Act.put, List.setIfInBounds_toArray, List.set_cons_zero, List.set_cons_succ])
      | ((with_reducible apply L_allocA M); exact zero178; clear M; intro c8 w1 hc8 M; simp only [Act.put, List.setIfInBounds_toArray, List.set_cons_zero, List.set_cons_succ])
      | ((with_reducible apply W_storeK (b := c7)); rfl; rfl; exact M.r1; (first | exact size25 | exact size178); (first | rfl | simp [hrl]); (first | exact one64 _ | exact one8 _); intro w3 K hr3; replace M := Mem.callPut (L1 := [_]) M (Or.inr (by assumption)) K hr3; clear K hr3; simp only [List.cons_append, List.nil_append] at M)
      | ((with_reducible apply W_storeK (b := c8)); rfl; rfl; exact M.r0; (first | exact size25 | exact size178); (first | rfl | simp [hpl]); (first | exact one64 _ | exact one8 _); intro w3 K hr3; replace M := Mem.callPut (L1 := []) M (Or.inr (by assumption)) K hr3; clear K hr3; simp only [List.cons_append, List.nil_append] at M)
      | ((with_reducible apply W_loadAll); rfl; (first | with_reducible exact M.r0 | with_reducible exact M.r1 | with_reducible exact M.r2 | with_reducible exact M.r3 | with_reducible exact M.r4 | with_reducible exact M.r5 | with_reducible exact M.r6 | assumption | exact M.kept.row (by assumption) (by simp)); exact Salg.underlying25; rfl; (first | with_reducible exact size25 | (rw [size25]; simp [hrl])); simp only [Act.put, List.setIfInBounds_toArray, List.set_cons_zero, List.set_cons_succ])
      | ((with_reducible apply W_storeK (b := c4)); rfl; rfl; exact M.r4; (first | exact size25 | exact size178); (first | rfl | simp [hrl]); (first | exact one64 _ | exact one8 _); intro w3 K hr3; replace M := Mem.callPut (L1 := [_, _, _, _]) M (Or.inr (by assumption)) K hr3; clear K hr3; simp only [List.cons_append, List.nil_append] at M))
    exact ret_cell1 Salg.results45 rfl M.r4 Salg.underlying25 rfl (by rw [size25]; simp [hrl]) rfl ⟨rfl, M.kept⟩
  · rw [if_neg hov] at hk
    subst hk
    rw [decide_eq_false hov] at HC
    clear hov h1 h2
    go_enter Salg.func45, Salg.ntmps45
    go_wp2_with (first
      | ((with_reducible apply L_box (d := 3) M); rfl; clear M; intro c1 w1 hc1 M; simp only [Act.put, List.setIfInBounds_toArray, List.set_cons_zero, List.set_cons_succ])
      | ((with_reducible apply L_box (d := 4) M); rfl; clear M; intro c2 w1 hc2 M; simp only [Act.put, List.setIfInBounds_toArray, List.set_cons_zero, List.set_cons_succ])
      | ((with_reducible apply L_box (d := 5) M); rfl; clear M; intro c3 w1 hc3 M; simp only [Act.put, List.setIfInBounds_toArray, List.set_cons_zero, List.set_cons_succ])
      | ((with_reducible apply L_allocA (d := 6) M); exact zero25; clear M; intro c4 w1 hc4 M; simp only [Act.put, List.setIfInBounds_toArray, List.set_cons_zero, List.set_cons_succ])
      | ((with_reducible apply W_loadAll); rfl; (first | with_reducible exact M.r0 | with_reducible exact M.r1 | with_reducible exact M.r2 | with_reducible exact M.r3 | with_reducible exact M.r4 | with_reducible exact M.r5 | with_reducible exact M.r6 | assumption | exact M.kept.row (by assumption) (by simp)); exact Salg.underlying25; rfl; (first | with_reducible exact size25 | (rw [size25]; simp [hx, hy])); simp only [Act.put, List.setIfInBounds_toArray, List.set_cons_zero, List.set_cons_succ]))
    refine (HC.out _).mono ?_
    rintro e w2 ⟨rfl, K⟩
    replace M := M.call K
    clear K HC
    go_wp2_with (first
      | ((with_reducible apply L_allocA (d := 7) M); exact zero25; clear M; intro c5 w1 hc5 M; simp only [Act.put, List.setIfInBounds_toArray, List.set_cons_zero, List.set_cons_succ])
      | ((with_reducible apply W_storeK (b := c5)); rfl; rfl; exact M.r0; (first | exact size25 | exact size178); (first | rfl | simp []); (first | exact one64 _ | exact one8 _); intro w3 K hr3; replace M := Mem.callPut (L1 := []) M (Or.inr (by assumption)) K hr3; clear K hr3; simp only [List.cons_append, List.nil_append] at M)
      | ((with_reducible apply W_loadCell); rfl; (first | with_reducible exact M.r0 | with_reducible exact M.r1 | with_reducible exact M.r2 | with_reducible exact M.r3 | with_reducible exact M.r4 | with_reducible exact M.r5 | with_reducible exact M.r6 | assumption | exact M.kept.row (by assumption) (by simp)); (first | exact get_map (by assumption) | exact get_map rfl | rfl); exact Salg.underlying23; rfl; simp only [Act.put, List.setIfInBounds_toArray, List.set_cons_zero, List.set_cons_succ])
      | ((with_reducible apply L_allocA M); exact zero183; clear M; intro c6 w1 hc6 M; simp only [Act.put, List.setIfInBounds_toArray, List.set_cons_zero, List.set_cons_succ])
      | ((with_reducible apply W_storeK (b := c6) (vs := (([s0, s1, s2, s3, 0, 0, 0, 0] : List Nat).map n64).toArray)); rfl; rfl; exact M.r0; exact size183; rfl; exact one64 _; intro w3 K hr3; replace M := Mem.callPut (L1 := []) M (Or.inr (by assumption)) K hr3; clear K hr3; simp only [List.cons_append, List.nil_append] at M)
      | ((with_reducible apply W_loadAll); rfl; (first | with_reducible exact M.r0 | with_reducible exact M.r1 | with_reducible exact M.r2 | with_reducible exact M.r3 | with_reducible exact M.r4 | with_reducible exact M.r5 | with_reducible exact M.r6 | assumption | exact M.kept.row (by assumption) (by simp)); exact Salg.underlying183; rfl; (first | with_reducible exact size183 | (rw [size183]; simp [])); simp only [Act.put, List.setIfInBounds_toArray, List.set_cons_zero, List.set_cons_succ])
      | ((with_reducible apply W_loadAll); rfl; (first | with_reducible exact M.r0 | with_reducible exact M.r1 | with_reducible exact M.r2 | with_reducible exact M.r3 | with_reducible exact M.r4 | with_reducible exact M.r5 | with_reducible exact M.r6 | assumption | exact M.kept.row (by assumption) (by simp)); exact Salg.underlying25; rfl; (first | with_reducible exact size25 | (rw [size25]; simp [hm])); simp only [Act.put, List.setIfInBounds_toArray, List.set_cons_zero, List.set_cons_succ]))
    refine (HRE.out _).mono ?_
    rintro e w7 ⟨rfl, K⟩
    replace M := M.call K
    clear K HRE
    go_wp2_with (first
      | ((with_reducible apply L_allocA (d := 10) M); exact zero25; clear M; intro c7 w1 hc7 M; simp only [Act.put, List.setIfInBounds_toArray, List.set_cons_zero, List.set_cons_succ])
      | ((with_reducible apply L_allocA M); exact zero178; clear M; intro c8 w1 hc8 M; simp only [Act.put, List.setIfInBounds_toArray, List.set_cons_zero, List.set_cons_succ])
      | ((with_reducible apply W_storeK (b := c7)); rfl; rfl; exact M.r1; (first | exact size25 | exact size178); (first | rfl | simp [hrl]); (first | exact one64 _ | exact one8 _); intro w3 K hr3; replace M := Mem.callPut (L1 := [_]) M (Or.inr (by assumption)) K hr3; clear K hr3; simp only [List.cons_append, List.nil_append] at M)
      | ((with_reducible apply W_storeK (b := c8)); rfl; rfl; exact M.r0; (first | exact size25 | exact size178); (first | rfl | simp [hpl]); (first | exact one64 _ | exact one8 _); intro w3 K hr3; replace M := Mem.callPut (L1 := []) M (Or.inr (by assumption)) K hr3; clear K hr3; simp only [List.cons_append, List.nil_append] at M)
      | ((with_reducible apply W_loadAll); rfl; (first | with_reducible exact M.r0 | with_reducible exact M.r1 | with_reducible exact M.r2 | with_reducible exact M.r3 | with_reducible exact M.r4 | with_reducible exact M.r5 | with_reducible exact M.r6 | assumption | exact M.kept.row (by assumption) (by simp)); exact Salg.underlying25; rfl; (first | with_reducible exact size25 | (rw [size25]; simp [hrl])); simp only [Act.put, List.setIfInBounds_toArray, List.set_cons_zero, List.set_cons_succ])
      | ((with_reducible apply W_storeK (b := c4)); rfl; rfl; exact M.r4; (first | exact size25 | exact size178); (first | rfl | simp [hrl]); (first | exact one64 _ | exact one8 _); intro w3 K hr3; replace M := Mem.callPut (L1 := [_, _, _, _]) M (Or.inr (by assumption)) K hr3; clear K hr3; simp only [List.cons_append, List.nil_append] at M))
    exact ret_cell1 Salg.results45 rfl M.r4 Salg.underlying25 rfl (by rw [size25]; simp [hrl]) rfl ⟨rfl, M.kept⟩
end Go.Proofs.YgcsalGreat

/-
  The walks of u256: Add, Sub, Div, Mod, Lt, Gt, signed, negative, IsZero, U64, below; law.flagWord.
-/
import Derived.Test.YgcsalGreatAlu1
import Derived.Test.YgcsalGreatRem
set_option linter.unusedSimpArgs false
namespace Go.Proofs.YgcsalGreat
open Go.RowKit Go.Own

set_option maxHeartbeats 2000000 in
set_option maxRecDepth 100000 in
theorem wAdd (xs ys : List Nat) (w : World) (hx : xs.length = 4) (hy : ys.length = 4) (hLx : Limbs xs) (hLy : Limbs ys) :
    Calls Salg.prog 38 #[A64 xs, A64 ys] w fun e w' => e = .returned (A64 (nl 4 (lval xs + lval ys))) ∧ Kept [] w w' := by
  have M := Mem.start w []
  have HC := hid (fun w => wAddOver xs ys w hx hy hLx hLy)
  have hrl := nl_length 4 (lval xs + lval ys)
  generalize nl 4 (lval xs + lval ys) = r4 at *
  generalize decide (18446744073709551616 ^ 4 ≤ lval xs + lval ys) = fl at *
  clear hLx hLy
  go_enter Salg.func38, Salg.ntmps38
  go_wp2_with (first
    | ((with_reducible apply L_box (d := 2) M); rfl; clear M; intro c1 w1 hc1 M; simp only [Act.put, List.setIfInBounds_toArray, List.set_cons_zero, List.set_cons_succ])
    | ((with_reducible apply L_box (d := 3) M); rfl; clear M; intro c2 w1 hc2 M; simp only [Act.put, List.setIfInBounds_toArray, List.set_cons_zero, List.set_cons_succ])
    | ((with_reducible apply L_allocA (d := 4) M); exact zero25; clear M; intro c3 w1 hc3 M; simp only [Act.put, List.setIfInBounds_toArray, List.set_cons_zero, List.set_cons_succ])
    | ((with_reducible apply W_loadAll); rfl; (first | with_reducible exact M.r0 | with_reducible exact M.r1 | with_reducible exact M.r2 | with_reducible exact M.r3 | with_reducible exact M.r4 | with_reducible exact M.r5 | with_reducible exact M.r6 | assumption | exact M.kept.row (by assumption) (by simp)); exact Salg.underlying25; rfl; (first | with_reducible exact size25 | (rw [size25]; simp [hx, hy])); simp only [Act.put, List.setIfInBounds_toArray, List.set_cons_zero, List.set_cons_succ]))
  refine (HC.out _).mono ?_
  rintro e w2 ⟨rfl, K⟩
  replace M := M.call K
  clear K HC
  go_wp2_with (first
    | ((with_reducible apply L_allocA (d := 5) M); exact zero25; clear M; intro c4 w1 hc4 M; simp only [Act.put, List.setIfInBounds_toArray, List.set_cons_zero, List.set_cons_succ])
    | ((with_reducible apply W_storeK (b := c4)); rfl; rfl; exact M.r0; (first | exact size25 | exact size178); (first | rfl | simp [hrl]); (first | exact one64 _ | exact one8 _); intro w3 K hr3; replace M := Mem.callPut (L1 := []) M (Or.inr (by assumption)) K hr3; clear K hr3; simp only [List.cons_append, List.nil_append] at M)
    | ((with_reducible apply W_loadAll); rfl; (first | with_reducible exact M.r0 | with_reducible exact M.r1 | with_reducible exact M.r2 | with_reducible exact M.r3 | with_reducible exact M.r4 | with_reducible exact M.r5 | with_reducible exact M.r6 | assumption | exact M.kept.row (by assumption) (by simp)); exact Salg.underlying25; rfl; (first | with_reducible exact size25 | (rw [size25]; simp [hrl])); simp only [Act.put, List.setIfInBounds_toArray, List.set_cons_zero, List.set_cons_succ])
    | ((with_reducible apply W_storeK (b := c3)); rfl; rfl; exact M.r1; (first | exact size25 | exact size178); (first | rfl | simp [hrl]); (first | exact one64 _ | exact one8 _); intro w3 K hr3; replace M := Mem.callPut (L1 := [_]) M (Or.inr (by assumption)) K hr3; clear K hr3; simp only [List.cons_append, List.nil_append] at M))
  exact ret_cell1 Salg.results38 rfl M.r1 Salg.underlying25 rfl (by rw [size25]; simp [hrl]) rfl ⟨rfl, M.kept⟩

set_option maxHeartbeats 2000000 in
set_option maxRecDepth 100000 in
theorem wSub (xs ys : List Nat) (w : World) (hx : xs.length = 4) (hy : ys.length = 4) (hLx : Limbs xs) (hLy : Limbs ys) :
    Calls Salg.prog 40 #[A64 xs, A64 ys] w fun e w' => e = .returned (A64 (nl 4 (lval xs + 18446744073709551616 ^ 4 - lval ys))) ∧ Kept [] w w' := by
  have M := Mem.start w []
  have HC := hid (fun w => wSubUnder xs ys w hx hy hLx hLy)
  have hrl := nl_length 4 (lval xs + 18446744073709551616 ^ 4 - lval ys)
  generalize nl 4 (lval xs + 18446744073709551616 ^ 4 - lval ys) = r4 at *
  generalize decide (lval xs < lval ys) = fl at *
  clear hLx hLy
  go_enter Salg.func40, Salg.ntmps40
  go_wp2_with (first
    | ((with_reducible apply L_box (d := 2) M); rfl; clear M; intro c1 w1 hc1 M; simp only [Act.put, List.setIfInBounds_toArray, List.set_cons_zero, List.set_cons_succ])
    | ((with_reducible apply L_box (d := 3) M); rfl; clear M; intro c2 w1 hc2 M; simp only [Act.put, List.setIfInBounds_toArray, List.set_cons_zero, List.set_cons_succ])
    | ((with_reducible apply L_allocA (d := 4) M); exact zero25; clear M; intro c3 w1 hc3 M; simp only [Act.put, List.setIfInBounds_toArray, List.set_cons_zero, List.set_cons_succ])
    | ((with_reducible apply W_loadAll); rfl; (first | with_reducible exact M.r0 | with_reducible exact M.r1 | with_reducible exact M.r2 | with_reducible exact M.r3 | with_reducible exact M.r4 | with_reducible exact M.r5 | with_reducible exact M.r6 | assumption | exact M.kept.row (by assumption) (by simp)); exact Salg.underlying25; rfl; (first | with_reducible exact size25 | (rw [size25]; simp [hx, hy])); simp only [Act.put, List.setIfInBounds_toArray, List.set_cons_zero, List.set_cons_succ]))
  refine (HC.out _).mono ?_
  rintro e w2 ⟨rfl, K⟩
  replace M := M.call K
  clear K HC
  go_wp2_with (first
    | ((with_reducible apply L_allocA (d := 5) M); exact zero25; clear M; intro c4 w1 hc4 M; simp only [Act.put, List.setIfInBounds_toArray, List.set_cons_zero, List.set_cons_succ])
    | ((with_reducible apply W_storeK (b := c4)); rfl; rfl; exact M.r0; (first | exact size25 | exact size178); (first | rfl | simp [hrl]); (first | exact one64 _ | exact one8 _); intro w3 K hr3; replace M := Mem.callPut (L1 := []) M (Or.inr (by assumption)) K hr3; clear K hr3; simp only [List.cons_append, List.nil_append] at M)
    | ((with_reducible apply W_loadAll); rfl; (first | with_reducible exact M.r0 | with_reducible exact M.r1 | with_reducible exact M.r2 | with_reducible exact M.r3 | with_reducible exact M.r4 | with_reducible exact M.r5 | with_reducible exact M.r6 | assumption | exact M.kept.row (by assumption) (by simp)); exact Salg.underlying25; rfl; (first | with_reducible exact size25 | (rw [size25]; simp [hrl])); simp only [Act.put, List.setIfInBounds_toArray, List.set_cons_zero, List.set_cons_succ])
    | ((with_reducible apply W_storeK (b := c3)); rfl; rfl; exact M.r1; (first | exact size25 | exact size178); (first | rfl | simp [hrl]); (first | exact one64 _ | exact one8 _); intro w3 K hr3; replace M := Mem.callPut (L1 := [_]) M (Or.inr (by assumption)) K hr3; clear K hr3; simp only [List.cons_append, List.nil_append] at M))
  exact ret_cell1 Salg.results40 rfl M.r1 Salg.underlying25 rfl (by rw [size25]; simp [hrl]) rfl ⟨rfl, M.kept⟩

set_option maxHeartbeats 2000000 in
set_option maxRecDepth 100000 in
theorem wDiv (xs ys : List Nat) (w : World) (hx : xs.length = 4) (hy : ys.length = 4) (hLx : Limbs xs) (hLy : Limbs ys) :
    Calls Salg.prog 41 #[A64 xs, A64 ys] w fun e w' => e = .returned (A64 (nl 4 (lval xs / lval ys))) ∧ Kept [] w w' := by
  have M := Mem.start w []
  have HC := hid (fun w => divRem_any xs ys w hx hy hLx hLy)
  have hql := nl_length 4 (lval xs / lval ys)
  have hrl := nl_length 4 (remN (lval xs) (lval ys))
  have hpl : (pathL (lval xs) (lval ys)).length = 3 := rfl
  generalize nl 4 (lval xs / lval ys) = q4 at *
  generalize nl 4 (remN (lval xs) (lval ys)) = r4 at *
  generalize pathL (lval xs) (lval ys) = p3 at *
  clear hLx hLy
  go_enter Salg.func41, Salg.ntmps41
  go_wp2_with (first
    | ((with_reducible apply L_box (d := 2) M); rfl; clear M; intro c1 w1 hc1 M; simp only [Act.put, List.setIfInBounds_toArray, List.set_cons_zero, List.set_cons_succ])
    | ((with_reducible apply L_box (d := 3) M); rfl; clear M; intro c2 w1 hc2 M; simp only [Act.put, List.setIfInBounds_toArray, List.set_cons_zero, List.set_cons_succ])
    | ((with_reducible apply L_allocA (d := 4) M); exact zero25; clear M; intro c3 w1 hc3 M; simp only [Act.put, List.setIfInBounds_toArray, List.set_cons_zero, List.set_cons_succ])
    | ((with_reducible apply W_loadAll); rfl; (first | with_reducible exact M.r0 | with_reducible exact M.r1 | with_reducible exact M.r2 | with_reducible exact M.r3 | with_reducible exact M.r4 | with_reducible exact M.r5 | with_reducible exact M.r6 | assumption | exact M.kept.row (by assumption) (by simp)); exact Salg.underlying25; rfl; (first | with_reducible exact size25 | (rw [size25]; simp [hx, hy])); simp only [Act.put, List.setIfInBounds_toArray, List.set_cons_zero, List.set_cons_succ]))
  refine (HC.out _).mono ?_
  rintro e w2 ⟨rfl, K⟩
  replace M := M.call K
  clear K HC
  go_wp2_with (first
    | ((with_reducible apply L_allocA (d := 5) M); exact zero25; clear M; intro c4 w1 hc4 M; simp only [Act.put, List.setIfInBounds_toArray, List.set_cons_zero, List.set_cons_succ])
    | ((with_reducible apply L_allocA (d := 6) M); exact zero25; clear M; intro c5 w1 hc5 M; simp only [Act.put, List.setIfInBounds_toArray, List.set_cons_zero, List.set_cons_succ])
    | ((with_reducible apply L_allocA M); exact zero178; clear M; intro c6 w1 hc6 M; simp only [Act.put, List.setIfInBounds_toArray, List.set_cons_zero, List.set_cons_succ])
    | ((with_reducible apply W_storeK (b := c4)); rfl; rfl; exact M.r2; (first | exact size25 | exact size178); (first | rfl | simp [hql]); (first | exact one64 _ | exact one8 _); intro w3 K hr3; replace M := Mem.callPut (L1 := [_, _]) M (Or.inr (by assumption)) K hr3; clear K hr3; simp only [List.cons_append, List.nil_append] at M)
    | ((with_reducible apply W_storeK (b := c5)); rfl; rfl; exact M.r1; (first | exact size25 | exact size178); (first | rfl | simp [hrl]); (first | exact one64 _ | exact one8 _); intro w3 K hr3; replace M := Mem.callPut (L1 := [_]) M (Or.inr (by assumption)) K hr3; clear K hr3; simp only [List.cons_append, List.nil_append] at M)
    | ((with_reducible apply W_storeK (b := c6)); rfl; rfl; exact M.r0; (first | exact size25 | exact size178); (first | rfl | simp [hpl]); (first | exact one64 _ | exact one8 _); intro w3 K hr3; replace M := Mem.callPut (L1 := []) M (Or.inr (by assumption)) K hr3; clear K hr3; simp only [List.cons_append, List.nil_append] at M)
    | ((with_reducible apply W_loadAll); rfl; (first | with_reducible exact M.r0 | with_reducible exact M.r1 | with_reducible exact M.r2 | with_reducible exact M.r3 | with_reducible exact M.r4 | with_reducible exact M.r5 | with_reducible exact M.r6 | assumption | exact M.kept.row (by assumption) (by simp)); exact Salg.underlying25; rfl; (first | with_reducible exact size25 | (rw [size25]; simp [hrl, hql])); simp only [Act.put, List.setIfInBounds_toArray, List.set_cons_zero, List.set_cons_succ])
    | ((with_reducible apply W_storeK (b := c3)); rfl; rfl; exact M.r3; (first | exact size25 | exact size178); (first | rfl | simp [hrl, hql]); (first | exact one64 _ | exact one8 _); intro w3 K hr3; replace M := Mem.callPut (L1 := [_, _, _]) M (Or.inr (by assumption)) K hr3; clear K hr3; simp only [List.cons_append, List.nil_append] at M))
  exact ret_cell1 Salg.results41 rfl M.r3 Salg.underlying25 rfl (by rw [size25]; simp [hrl, hql]) rfl ⟨rfl, M.kept⟩

set_option maxHeartbeats 2000000 in
set_option maxRecDepth 100000 in
theorem wMod (xs ys : List Nat) (w : World) (hx : xs.length = 4) (hy : ys.length = 4) (hLx : Limbs xs) (hLy : Limbs ys) :
    Calls Salg.prog 43 #[A64 xs, A64 ys] w fun e w' => e = .returned (A64 (nl 4 (remN (lval xs) (lval ys)))) ∧ Kept [] w w' := by
  have M := Mem.start w []
  have HC := hid (fun w => divRem_any xs ys w hx hy hLx hLy)
  have hql := nl_length 4 (lval xs / lval ys)
  have hrl := nl_length 4 (remN (lval xs) (lval ys))
  have hpl : (pathL (lval xs) (lval ys)).length = 3 := rfl
  generalize nl 4 (lval xs / lval ys) = q4 at *
  generalize nl 4 (remN (lval xs) (lval ys)) = r4 at *
  generalize pathL (lval xs) (lval ys) = p3 at *
  clear hLx hLy
  go_enter Salg.func43, Salg.ntmps43
  go_wp2_with (first
    | ((with_reducible apply L_box (d := 2) M); rfl; clear M; intro c1 w1 hc1 M; simp only [Act.put, List.setIfInBounds_toArray, List.set_cons_zero, List.set_cons_succ])
    | ((with_reducible apply L_box (d := 3) M); rfl; clear M; intro c2 w1 hc2 M; simp only [Act.put, List.setIfInBounds_toArray, List.set_cons_zero, List.set_cons_succ])
    | ((with_reducible apply L_allocA (d := 4) M); exact zero25; clear M; intro c3 w1 hc3 M; simp only [Act.put, List.setIfInBounds_toArray, List.set_cons_zero, List.set_cons_succ])
    | ((with_reducible apply W_loadAll); rfl; (first | with_reducible exact M.r0 | with_reducible exact M.r1 | with_reducible exact M.r2 | with_reducible exact M.r3 | with_reducible exact M.r4 | with_reducible exact M.r5 | with_reducible exact M.r6 | assumption | exact M.kept.row (by assumption) (by simp)); exact Salg.underlying25; rfl; (first | with_reducible exact size25 | (rw [size25]; simp [hx, hy])); simp only [Act.put, List.setIfInBounds_toArray, List.set_cons_zero, List.set_cons_succ]))
  refine (HC.out _).mono ?_
  rintro e w2 ⟨rfl, K⟩
  replace M := M.call K
  clear K HC
  go_wp2_with (first
    | ((with_reducible apply L_allocA (d := 5) M); exact zero25; clear M; intro c4 w1 hc4 M; simp only [Act.put, List.setIfInBounds_toArray, List.set_cons_zero, List.set_cons_succ])
    | ((with_reducible apply L_allocA (d := 6) M); exact zero25; clear M; intro c5 w1 hc5 M; simp only [Act.put, List.setIfInBounds_toArray, List.set_cons_zero, List.set_cons_succ])
    | ((with_reducible apply L_allocA M); exact zero178; clear M; intro c6 w1 hc6 M; simp only [Act.put, List.setIfInBounds_toArray, List.set_cons_zero, List.set_cons_succ])
    | ((with_reducible apply W_storeK (b := c4)); rfl; rfl; exact M.r2; (first | exact size25 | exact size178); (first | rfl | simp [hql]); (first | exact one64 _ | exact one8 _); intro w3 K hr3; replace M := Mem.callPut (L1 := [_, _]) M (Or.inr (by assumption)) K hr3; clear K hr3; simp only [List.cons_append, List.nil_append] at M)
    | ((with_reducible apply W_storeK (b := c5)); rfl; rfl; exact M.r1; (first | exact size25 | exact size178); (first | rfl | simp [hrl]); (first | exact one64 _ | exact one8 _); intro w3 K hr3; replace M := Mem.callPut (L1 := [_]) M (Or.inr (by assumption)) K hr3; clear K hr3; simp only [List.cons_append, List.nil_append] at M)
    | ((with_reducible apply W_storeK (b := c6)); rfl; rfl; exact M.r0; (first | exact size25 | exact size178); (first | rfl | simp [hpl]); (first | exact one64 _ | exact one8 _); intro w3 K hr3; replace M := Mem.callPut (L1 := []) M (Or.inr (by assumption)) K hr3; clear K hr3; simp only [List.cons_append, List.nil_append] at M)
    | ((with_reducible apply W_loadAll); rfl; (first | with_reducible exact M.r0 | with_reducible exact M.r1 | with_reducible exact M.r2 | with_reducible exact M.r3 | with_reducible exact M.r4 | with_reducible exact M.r5 | with_reducible exact M.r6 | assumption | exact M.kept.row (by assumption) (by simp)); exact Salg.underlying25; rfl; (first | with_reducible exact size25 | (rw [size25]; simp [hrl, hql])); simp only [Act.put, List.setIfInBounds_toArray, List.set_cons_zero, List.set_cons_succ])
    | ((with_reducible apply W_storeK (b := c3)); rfl; rfl; exact M.r3; (first | exact size25 | exact size178); (first | rfl | simp [hrl, hql]); (first | exact one64 _ | exact one8 _); intro w3 K hr3; replace M := Mem.callPut (L1 := [_, _, _]) M (Or.inr (by assumption)) K hr3; clear K hr3; simp only [List.cons_append, List.nil_append] at M))
  exact ret_cell1 Salg.results43 rfl M.r3 Salg.underlying25 rfl (by rw [size25]; simp [hrl, hql]) rfl ⟨rfl, M.kept⟩

set_option maxHeartbeats 2000000 in
set_option maxRecDepth 100000 in
theorem wLt (xs ys : List Nat) (w : World) (hx : xs.length = 4) (hy : ys.length = 4) (hLx : Limbs xs) (hLy : Limbs ys) :
    Calls Salg.prog 50 #[A64 xs, A64 ys] w fun e w' => e = .returned (.bool (decide (lval xs < lval ys))) ∧ Kept [] w w' := by
  have M := Mem.start w []
  have HC := hid (fun w => wSubUnder xs ys w hx hy hLx hLy)
  have hrl := nl_length 4 (lval xs + 18446744073709551616 ^ 4 - lval ys)
  generalize nl 4 (lval xs + 18446744073709551616 ^ 4 - lval ys) = r4 at *
  generalize decide (lval xs < lval ys) = fl at *
  clear hLx hLy
  go_enter Salg.func50, Salg.ntmps50
  go_wp2_with (first
    | ((with_reducible apply L_box (d := 2) M); rfl; clear M; intro c1 w1 hc1 M; simp only [Act.put, List.setIfInBounds_toArray, List.set_cons_zero, List.set_cons_succ])
    | ((with_reducible apply L_box (d := 3) M); rfl; clear M; intro c2 w1 hc2 M; simp only [Act.put, List.setIfInBounds_toArray, List.set_cons_zero, List.set_cons_succ])
    | ((with_reducible apply W_loadAll); rfl; (first | with_reducible exact M.r0 | with_reducible exact M.r1 | with_reducible exact M.r2 | with_reducible exact M.r3 | with_reducible exact M.r4 | with_reducible exact M.r5 | with_reducible exact M.r6 | assumption | exact M.kept.row (by assumption) (by simp)); exact Salg.underlying25; rfl; (first | with_reducible exact size25 | (rw [size25]; simp [hx, hy])); simp only [Act.put, List.setIfInBounds_toArray, List.set_cons_zero, List.set_cons_succ]))
  refine (HC.out _).mono ?_
  rintro e w2 ⟨rfl, K⟩
  replace M := M.call K
  clear K HC
  go_wp2_with (first
    | ((with_reducible apply L_allocA (d := 5) M); exact zero25; clear M; intro c4 w1 hc4 M; simp only [Act.put, List.setIfInBounds_toArray, List.set_cons_zero, List.set_cons_succ])
    | ((with_reducible apply W_storeK (b := c4)); rfl; rfl; exact M.r0; (first | exact size25 | exact size178); (first | rfl | simp [hrl]); (first | exact one64 _ | exact one8 _); intro w3 K hr3; replace M := Mem.callPut (L1 := []) M (Or.inr (by assumption)) K hr3; clear K hr3; simp only [List.cons_append, List.nil_append] at M))
  go_ret
  exact ⟨rfl, M.kept⟩

set_option maxHeartbeats 2000000 in
set_option maxRecDepth 100000 in
theorem wGt (xs ys : List Nat) (w : World) (hx : xs.length = 4) (hy : ys.length = 4) (hLx : Limbs xs) (hLy : Limbs ys) :
    Calls Salg.prog 51 #[A64 xs, A64 ys] w fun e w' => e = .returned (.bool (decide (lval ys < lval xs))) ∧ Kept [] w w' := by
  have M := Mem.start w []
  have HC := hid (fun w => wLt ys xs w hy hx hLy hLx)
  generalize decide (lval ys < lval xs) = fl at *
  clear hLx hLy
  go_enter Salg.func51, Salg.ntmps51
  go_wp2_with (first
    | ((with_reducible apply L_box (d := 2) M); rfl; clear M; intro c1 w1 hc1 M; simp only [Act.put, List.setIfInBounds_toArray, List.set_cons_zero, List.set_cons_succ])
    | ((with_reducible apply L_box (d := 3) M); rfl; clear M; intro c2 w1 hc2 M; simp only [Act.put, List.setIfInBounds_toArray, List.set_cons_zero, List.set_cons_succ])
    | ((with_reducible apply W_loadAll); rfl; (first | with_reducible exact M.r0 | with_reducible exact M.r1 | with_reducible exact M.r2 | with_reducible exact M.r3 | with_reducible exact M.r4 | with_reducible exact M.r5 | with_reducible exact M.r6 | assumption | exact M.kept.row (by assumption) (by simp)); exact Salg.underlying25; rfl; (first | with_reducible exact size25 | (rw [size25]; simp [hx, hy])); simp only [Act.put, List.setIfInBounds_toArray, List.set_cons_zero, List.set_cons_succ]))
  refine (HC.out _).mono ?_
  rintro e w2 ⟨rfl, K⟩
  replace M := M.call K
  clear K HC
  go_wp2_with fail
  go_ret
  exact ⟨rfl, M.kept⟩

set_option maxHeartbeats 2000000 in
set_option maxRecDepth 100000 in
theorem wFlag (t : Bool) (w : World) : Calls Salg.prog 49 #[.bool t] w fun e w' => e = .returned (A64 (nl 4 (if t then 1 else 0))) ∧ Kept [] w w' := by
  have M := Mem.start w []
  cases t with
  | false =>
    go_enter Salg.func49, Salg.ntmps49
    go_wp2_with (first
      | ((with_reducible apply L_allocA (d := 2) M); exact zero25; clear M; intro c1 w1 hc1 M; simp only [Act.put, List.setIfInBounds_toArray, List.set_cons_zero, List.set_cons_succ])
      | ((with_reducible apply W_storeK (b := c1) (vs := (([0, 0, 0, 0] : List Nat).map n64).toArray)); rfl; rfl; exact M.r0; exact size25; (first | rfl | simp []); exact one64 _; intro w3 K hr3; replace M := Mem.callPut (L1 := []) M (Or.inr (by assumption)) K hr3; clear K hr3; simp only [List.cons_append, List.nil_append] at M))
    exact ret_cell1 Salg.results49 rfl M.r0 Salg.underlying25 rfl size25 rfl ⟨rfl, M.kept⟩
  | true =>
    go_enter Salg.func49, Salg.ntmps49
    go_wp2_with (first
      | ((with_reducible apply L_allocA (d := 2) M); exact zero25; clear M; intro c1 w1 hc1 M; simp only [Act.put, List.setIfInBounds_toArray, List.set_cons_zero, List.set_cons_succ])
      | ((with_reducible apply W_storeK (b := c1) (vs := (([1, 0, 0, 0] : List Nat).map n64).toArray)); rfl; rfl; exact M.r0; exact size25; (first | rfl | simp []); exact one64 _; intro w3 K hr3; replace M := Mem.callPut (L1 := []) M (Or.inr (by assumption)) K hr3; clear K hr3; simp only [List.cons_append, List.nil_append] at M))
    exact ret_cell1 Salg.results49 rfl M.r0 Salg.underlying25 rfl size25 rfl ⟨rfl, M.kept⟩

set_option maxHeartbeats 2000000 in
set_option maxRecDepth 100000 in
theorem wSigned (xs : List Nat) (t : Bool) (w : World) (hx : xs.length = 4) (hLx : Limbs xs) :
    Calls Salg.prog 132 #[A64 xs, .bool t] w fun e w' => e = .returned (A64 (nl 4 (if t then 18446744073709551616 ^ 4 - lval xs else lval xs))) ∧ Kept [] w w' := by
  have M := Mem.start w []
  cases t with
  | false =>
    have HE : Hid (xs = nl 4 (lval xs)) := eq_nl hLx hx rfl
    clear hLx
    go_enter Salg.func132, Salg.ntmps132
    go_wp2_with (first
      | ((with_reducible apply L_box (d := 2) M); rfl; clear M; intro c1 w1 hc1 M; simp only [Act.put, List.setIfInBounds_toArray, List.set_cons_zero, List.set_cons_succ])
      | ((with_reducible apply L_allocA (d := 4) M); exact zero25; clear M; intro c2 w1 hc2 M; simp only [Act.put, List.setIfInBounds_toArray, List.set_cons_zero, List.set_cons_succ])
      | ((with_reducible apply W_loadAll); rfl; (first | with_reducible exact M.r0 | with_reducible exact M.r1 | with_reducible exact M.r2 | with_reducible exact M.r3 | with_reducible exact M.r4 | with_reducible exact M.r5 | with_reducible exact M.r6 | assumption | exact M.kept.row (by assumption) (by simp)); exact Salg.underlying25; rfl; (first | with_reducible exact size25 | (rw [size25]; simp [hx])); simp only [Act.put, List.setIfInBounds_toArray, List.set_cons_zero, List.set_cons_succ])
      | ((with_reducible apply W_storeK (b := c2)); rfl; rfl; exact M.r0; (first | exact size25 | exact size178); (first | rfl | simp [hx]); (first | exact one64 _ | exact one8 _); intro w3 K hr3; replace M := Mem.callPut (L1 := []) M (Or.inr (by assumption)) K hr3; clear K hr3; simp only [List.cons_append, List.nil_append] at M))
    exact ret_cell1 Salg.results132 rfl M.r0 Salg.underlying25 rfl (by rw [size25]; simp [hx]) rfl ⟨by (try simp only [Bool.false_eq_true, if_false]); rw [← HE.out], M.kept⟩
  | true =>
    have HC := hid (fun w => wSub [0, 0, 0, 0] xs w rfl hx (by intro x hx; simp at hx; omega) hLx)
    rw [show lval [0, 0, 0, 0] + 18446744073709551616 ^ 4 - lval xs = 18446744073709551616 ^ 4 - lval xs from by rw [show lval [0, 0, 0, 0] = 0 from rfl, Nat.zero_add]] at HC
    have hrl := nl_length 4 (18446744073709551616 ^ 4 - lval xs)
    simp only [if_true]
    generalize nl 4 (18446744073709551616 ^ 4 - lval xs) = r4 at *
    clear hLx
    go_enter Salg.func132, Salg.ntmps132
    go_wp2_with (first
      | ((with_reducible apply L_box (d := 2) M); rfl; clear M; intro c1 w1 hc1 M; simp only [Act.put, List.setIfInBounds_toArray, List.set_cons_zero, List.set_cons_succ])
      | ((with_reducible apply L_allocA (d := 4) M); exact zero25; clear M; intro c2 w1 hc2 M; simp only [Act.put, List.setIfInBounds_toArray, List.set_cons_zero, List.set_cons_succ])
      | ((with_reducible apply W_loadAll); rfl; (first | with_reducible exact M.r0 | with_reducible exact M.r1 | with_reducible exact M.r2 | with_reducible exact M.r3 | with_reducible exact M.r4 | with_reducible exact M.r5 | with_reducible exact M.r6 | assumption | exact M.kept.row (by assumption) (by simp)); exact Salg.underlying25; rfl; (first | with_reducible exact size25 | (rw [size25]; simp [hx])); simp only [Act.put, List.setIfInBounds_toArray, List.set_cons_zero, List.set_cons_succ]))
    refine (HC.out _).mono ?_
    rintro e w2 ⟨rfl, K⟩
    replace M := M.call K
    clear K HC
    go_wp2_with ((with_reducible apply W_storeK (b := c2)); rfl; rfl; exact M.r0; (first | exact size25 | exact size178); (first | rfl | simp [hrl]); (first | exact one64 _ | exact one8 _); intro w3 K hr3; replace M := Mem.callPut (L1 := []) M (Or.inr (by assumption)) K hr3; clear K hr3; simp only [List.cons_append, List.nil_append] at M)
    exact ret_cell1 Salg.results132 rfl M.r0 Salg.underlying25 rfl (by rw [size25]; simp [hrl]) rfl ⟨rfl, M.kept⟩
end Go.Proofs.YgcsalGreat

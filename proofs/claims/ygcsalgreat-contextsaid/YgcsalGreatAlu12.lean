/-
  What each operation answers (aluN), and the walk of law.wordAlu, one theorem an operation.
-/
import Derived.Test.YgcsalGreatAlu11
set_option linter.unusedSimpArgs false
set_option linter.unusedVariables false
namespace Go.Own
def flag (t : Bool) : Nat := if t then 1 else 0
/-- The operations' numbers. -/
def isOp (o : Nat) : Bool := (decide (1 ≤ o) && decide (o ≤ 11)) || (decide (16 ≤ o) && decide (o ≤ 29))
/-- What operation o answers, modulo 2^256. -/
def aluN (o X Y Z : Nat) : Nat :=
  if o = 1 then X + Y else
  if o = 2 then X * Y else
  if o = 3 then X + 18446744073709551616 ^ 4 - Y else
  if o = 4 then X / Y else
  if o = 5 then sgn (neg (X) != neg (Y)) (sgn (neg (X)) (X) / sgn (neg (Y)) (Y)) else
  if o = 6 then remN (X) (Y) else
  if o = 7 then sgn (neg (X)) (remN (sgn (neg (X)) (X)) (sgn (neg (Y)) (Y))) else
  if o = 8 then remN (X + Y) (Z) else
  if o = 9 then remN (X * Y) (Z) else
  if o = 10 then expN (X) (Y) else
  if o = 11 then sextN (X) (Y) else
  if o = 16 then flag (decide (X < Y)) else
  if o = 17 then flag (decide (Y < X)) else
  if o = 18 then flag (slt (X) (Y)) else
  if o = 19 then flag (slt (Y) (X)) else
  if o = 20 then flag (decide (X = Y)) else
  if o = 21 then flag (decide (X = 0)) else
  if o = 22 then X &&& Y else
  if o = 23 then X ||| Y else
  if o = 24 then X ^^^ Y else
  if o = 25 then 18446744073709551616 ^ 4 - 1 - X else
  if o = 26 then byteN (X) (Y) else
  if o = 27 then shlN (X) (Y) else
  if o = 28 then shrN (X) (Y) else
  if o = 29 then sarN (X) (Y) else
  0
end Go.Own
namespace Go.Proofs.YgcsalGreat
open Go.RowKit Go.Own

set_option maxHeartbeats 2000000 in
set_option maxRecDepth 100000 in
theorem wordAlu_1 (xs ys zs : List Nat) (w : World) (hx : xs.length = 4) (hy : ys.length = 4) (hz : zs.length = 4) (hLx : Limbs xs) (hLy : Limbs ys) (hLz : Limbs zs) :
    Calls Salg.prog 9 #[.int .u8 1, A64 xs, A64 ys, A64 zs] w fun e w' => e = .returned (.tuple #[A64 (nl 4 (lval xs + lval ys)), .bool true]) ∧ Kept [] w w' := by
  have M := Mem.start w []
  have HC := hid (fun w => wAdd xs ys w hx hy hLx hLy)
  have hrl := nl_length 4 (lval xs + lval ys)
  generalize nl 4 (lval xs + lval ys) = out at *
  clear hLx hLy hLz
  go_enter Salg.func9, Salg.ntmps9
  go_wp2_with (first
    | ((with_reducible apply L_box (d := 5) M); rfl; clear M; intro c1 w1 hc1 M; simp only [Act.put, List.setIfInBounds_toArray, List.set_cons_zero, List.set_cons_succ])
    | ((with_reducible apply L_box (d := 6) M); rfl; clear M; intro c2 w1 hc2 M; simp only [Act.put, List.setIfInBounds_toArray, List.set_cons_zero, List.set_cons_succ])
    | ((with_reducible apply L_box (d := 7) M); rfl; clear M; intro c3 w1 hc3 M; simp only [Act.put, List.setIfInBounds_toArray, List.set_cons_zero, List.set_cons_succ])
    | ((with_reducible apply L_allocA (d := 8) M); exact zero25; clear M; intro c4 w1 hc4 M; simp only [Act.put, List.setIfInBounds_toArray, List.set_cons_zero, List.set_cons_succ])
    | ((with_reducible apply W_loadAll); rfl; (first | with_reducible exact M.r0 | with_reducible exact M.r1 | with_reducible exact M.r2 | with_reducible exact M.r3 | with_reducible exact M.r4 | with_reducible exact M.r5 | with_reducible exact M.r6 | assumption | exact M.kept.row (by assumption) (by simp)); exact Salg.underlying25; rfl; (first | with_reducible exact size25 | (rw [size25]; simp [hx, hy, hz])); simp only [Act.put, List.setIfInBounds_toArray, List.set_cons_zero, List.set_cons_succ]))
  refine (HC.out _).mono ?_
  rintro e w2 ⟨rfl, K⟩
  replace M := M.call K
  clear K HC
  go_wp2_with ((with_reducible apply W_storeK (b := c4)); rfl; rfl; exact M.r0; exact size25; (first | rfl | simp [hrl]); exact one64 _; intro w3 K hr3; replace M := Mem.callPut (L1 := []) M (Or.inr (by assumption)) K hr3; clear K hr3; simp only [List.cons_append, List.nil_append] at M)
  exact ret_ct Salg.results9 rfl M.r0 Salg.underlying25 rfl (by rw [size25]; simp [hrl]) rfl ⟨rfl, M.kept⟩

set_option maxHeartbeats 2000000 in
set_option maxRecDepth 100000 in
theorem wordAlu_2 (xs ys zs : List Nat) (w : World) (hx : xs.length = 4) (hy : ys.length = 4) (hz : zs.length = 4) (hLx : Limbs xs) (hLy : Limbs ys) (hLz : Limbs zs) :
    Calls Salg.prog 9 #[.int .u8 2, A64 xs, A64 ys, A64 zs] w fun e w' => e = .returned (.tuple #[A64 (nl 4 (lval xs * lval ys)), .bool true]) ∧ Kept [] w w' := by
  have M := Mem.start w []
  have HC := hid (fun w => wMul xs ys w hx hy hLx hLy)
  have hrl := nl_length 4 (lval xs * lval ys)
  generalize nl 4 (lval xs * lval ys) = out at *
  clear hLx hLy hLz
  go_enter Salg.func9, Salg.ntmps9
  go_wp2_with (first
    | ((with_reducible apply L_box (d := 5) M); rfl; clear M; intro c1 w1 hc1 M; simp only [Act.put, List.setIfInBounds_toArray, List.set_cons_zero, List.set_cons_succ])
    | ((with_reducible apply L_box (d := 6) M); rfl; clear M; intro c2 w1 hc2 M; simp only [Act.put, List.setIfInBounds_toArray, List.set_cons_zero, List.set_cons_succ])
    | ((with_reducible apply L_box (d := 7) M); rfl; clear M; intro c3 w1 hc3 M; simp only [Act.put, List.setIfInBounds_toArray, List.set_cons_zero, List.set_cons_succ])
    | ((with_reducible apply L_allocA (d := 8) M); exact zero25; clear M; intro c4 w1 hc4 M; simp only [Act.put, List.setIfInBounds_toArray, List.set_cons_zero, List.set_cons_succ])
    | ((with_reducible apply W_loadAll); rfl; (first | with_reducible exact M.r0 | with_reducible exact M.r1 | with_reducible exact M.r2 | with_reducible exact M.r3 | with_reducible exact M.r4 | with_reducible exact M.r5 | with_reducible exact M.r6 | assumption | exact M.kept.row (by assumption) (by simp)); exact Salg.underlying25; rfl; (first | with_reducible exact size25 | (rw [size25]; simp [hx, hy, hz])); simp only [Act.put, List.setIfInBounds_toArray, List.set_cons_zero, List.set_cons_succ]))
  refine (HC.out _).mono ?_
  rintro e w2 ⟨rfl, K⟩
  replace M := M.call K
  clear K HC
  go_wp2_with ((with_reducible apply W_storeK (b := c4)); rfl; rfl; exact M.r0; exact size25; (first | rfl | simp [hrl]); exact one64 _; intro w3 K hr3; replace M := Mem.callPut (L1 := []) M (Or.inr (by assumption)) K hr3; clear K hr3; simp only [List.cons_append, List.nil_append] at M)
  exact ret_ct Salg.results9 rfl M.r0 Salg.underlying25 rfl (by rw [size25]; simp [hrl]) rfl ⟨rfl, M.kept⟩

set_option maxHeartbeats 2000000 in
set_option maxRecDepth 100000 in
theorem wordAlu_3 (xs ys zs : List Nat) (w : World) (hx : xs.length = 4) (hy : ys.length = 4) (hz : zs.length = 4) (hLx : Limbs xs) (hLy : Limbs ys) (hLz : Limbs zs) :
    Calls Salg.prog 9 #[.int .u8 3, A64 xs, A64 ys, A64 zs] w fun e w' => e = .returned (.tuple #[A64 (nl 4 (lval xs + 18446744073709551616 ^ 4 - lval ys)), .bool true]) ∧ Kept [] w w' := by
  have M := Mem.start w []
  have HC := hid (fun w => wSub xs ys w hx hy hLx hLy)
  have hrl := nl_length 4 (lval xs + 18446744073709551616 ^ 4 - lval ys)
  generalize nl 4 (lval xs + 18446744073709551616 ^ 4 - lval ys) = out at *
  clear hLx hLy hLz
  go_enter Salg.func9, Salg.ntmps9
  go_wp2_with (first
    | ((with_reducible apply L_box (d := 5) M); rfl; clear M; intro c1 w1 hc1 M; simp only [Act.put, List.setIfInBounds_toArray, List.set_cons_zero, List.set_cons_succ])
    | ((with_reducible apply L_box (d := 6) M); rfl; clear M; intro c2 w1 hc2 M; simp only [Act.put, List.setIfInBounds_toArray, List.set_cons_zero, List.set_cons_succ])
    | ((with_reducible apply L_box (d := 7) M); rfl; clear M; intro c3 w1 hc3 M; simp only [Act.put, List.setIfInBounds_toArray, List.set_cons_zero, List.set_cons_succ])
    | ((with_reducible apply L_allocA (d := 8) M); exact zero25; clear M; intro c4 w1 hc4 M; simp only [Act.put, List.setIfInBounds_toArray, List.set_cons_zero, List.set_cons_succ])
    | ((with_reducible apply W_loadAll); rfl; (first | with_reducible exact M.r0 | with_reducible exact M.r1 | with_reducible exact M.r2 | with_reducible exact M.r3 | with_reducible exact M.r4 | with_reducible exact M.r5 | with_reducible exact M.r6 | assumption | exact M.kept.row (by assumption) (by simp)); exact Salg.underlying25; rfl; (first | with_reducible exact size25 | (rw [size25]; simp [hx, hy, hz])); simp only [Act.put, List.setIfInBounds_toArray, List.set_cons_zero, List.set_cons_succ]))
  refine (HC.out _).mono ?_
  rintro e w2 ⟨rfl, K⟩
  replace M := M.call K
  clear K HC
  go_wp2_with ((with_reducible apply W_storeK (b := c4)); rfl; rfl; exact M.r0; exact size25; (first | rfl | simp [hrl]); exact one64 _; intro w3 K hr3; replace M := Mem.callPut (L1 := []) M (Or.inr (by assumption)) K hr3; clear K hr3; simp only [List.cons_append, List.nil_append] at M)
  exact ret_ct Salg.results9 rfl M.r0 Salg.underlying25 rfl (by rw [size25]; simp [hrl]) rfl ⟨rfl, M.kept⟩

set_option maxHeartbeats 2000000 in
set_option maxRecDepth 100000 in
theorem wordAlu_4 (xs ys zs : List Nat) (w : World) (hx : xs.length = 4) (hy : ys.length = 4) (hz : zs.length = 4) (hLx : Limbs xs) (hLy : Limbs ys) (hLz : Limbs zs) :
    Calls Salg.prog 9 #[.int .u8 4, A64 xs, A64 ys, A64 zs] w fun e w' => e = .returned (.tuple #[A64 (nl 4 (lval xs / lval ys)), .bool true]) ∧ Kept [] w w' := by
  have M := Mem.start w []
  have HC := hid (fun w => wDiv xs ys w hx hy hLx hLy)
  have hrl := nl_length 4 (lval xs / lval ys)
  generalize nl 4 (lval xs / lval ys) = out at *
  clear hLx hLy hLz
  go_enter Salg.func9, Salg.ntmps9
  go_wp2_with (first
    | ((with_reducible apply L_box (d := 5) M); rfl; clear M; intro c1 w1 hc1 M; simp only [Act.put, List.setIfInBounds_toArray, List.set_cons_zero, List.set_cons_succ])
    | ((with_reducible apply L_box (d := 6) M); rfl; clear M; intro c2 w1 hc2 M; simp only [Act.put, List.setIfInBounds_toArray, List.set_cons_zero, List.set_cons_succ])
    | ((with_reducible apply L_box (d := 7) M); rfl; clear M; intro c3 w1 hc3 M; simp only [Act.put, List.setIfInBounds_toArray, List.set_cons_zero, List.set_cons_succ])
    | ((with_reducible apply L_allocA (d := 8) M); exact zero25; clear M; intro c4 w1 hc4 M; simp only [Act.put, List.setIfInBounds_toArray, List.set_cons_zero, List.set_cons_succ])
    | ((with_reducible apply W_loadAll); rfl; (first | with_reducible exact M.r0 | with_reducible exact M.r1 | with_reducible exact M.r2 | with_reducible exact M.r3 | with_reducible exact M.r4 | with_reducible exact M.r5 | with_reducible exact M.r6 | assumption | exact M.kept.row (by assumption) (by simp)); exact Salg.underlying25; rfl; (first | with_reducible exact size25 | (rw [size25]; simp [hx, hy, hz])); simp only [Act.put, List.setIfInBounds_toArray, List.set_cons_zero, List.set_cons_succ]))
  refine (HC.out _).mono ?_
  rintro e w2 ⟨rfl, K⟩
  replace M := M.call K
  clear K HC
  go_wp2_with ((with_reducible apply W_storeK (b := c4)); rfl; rfl; exact M.r0; exact size25; (first | rfl | simp [hrl]); exact one64 _; intro w3 K hr3; replace M := Mem.callPut (L1 := []) M (Or.inr (by assumption)) K hr3; clear K hr3; simp only [List.cons_append, List.nil_append] at M)
  exact ret_ct Salg.results9 rfl M.r0 Salg.underlying25 rfl (by rw [size25]; simp [hrl]) rfl ⟨rfl, M.kept⟩

set_option maxHeartbeats 2000000 in
set_option maxRecDepth 100000 in
theorem wordAlu_5 (xs ys zs : List Nat) (w : World) (hx : xs.length = 4) (hy : ys.length = 4) (hz : zs.length = 4) (hLx : Limbs xs) (hLy : Limbs ys) (hLz : Limbs zs) :
    Calls Salg.prog 9 #[.int .u8 5, A64 xs, A64 ys, A64 zs] w fun e w' => e = .returned (.tuple #[A64 (nl 4 (sgn (neg (lval xs) != neg (lval ys)) (sgn (neg (lval xs)) (lval xs) / sgn (neg (lval ys)) (lval ys)))), .bool true]) ∧ Kept [] w w' := by
  have M := Mem.start w []
  have HC := hid (fun w => wSDiv xs ys w hx hy hLx hLy)
  have hrl := nl_length 4 (sgn (neg (lval xs) != neg (lval ys)) (sgn (neg (lval xs)) (lval xs) / sgn (neg (lval ys)) (lval ys)))
  generalize nl 4 (sgn (neg (lval xs) != neg (lval ys)) (sgn (neg (lval xs)) (lval xs) / sgn (neg (lval ys)) (lval ys))) = out at *
  clear hLx hLy hLz
  go_enter Salg.func9, Salg.ntmps9
  go_wp2_with (first
    | ((with_reducible apply L_box (d := 5) M); rfl; clear M; intro c1 w1 hc1 M; simp only [Act.put, List.setIfInBounds_toArray, List.set_cons_zero, List.set_cons_succ])
    | ((with_reducible apply L_box (d := 6) M); rfl; clear M; intro c2 w1 hc2 M; simp only [Act.put, List.setIfInBounds_toArray, List.set_cons_zero, List.set_cons_succ])
    | ((with_reducible apply L_box (d := 7) M); rfl; clear M; intro c3 w1 hc3 M; simp only [Act.put, List.setIfInBounds_toArray, List.set_cons_zero, List.set_cons_succ])
    | ((with_reducible apply L_allocA (d := 8) M); exact zero25; clear M; intro c4 w1 hc4 M; simp only [Act.put, List.setIfInBounds_toArray, List.set_cons_zero, List.set_cons_succ])
    | ((with_reducible apply W_loadAll); rfl; (first | with_reducible exact M.r0 | with_reducible exact M.r1 | with_reducible exact M.r2 | with_reducible exact M.r3 | with_reducible exact M.r4 | with_reducible exact M.r5 | with_reducible exact M.r6 | assumption | exact M.kept.row (by assumption) (by simp)); exact Salg.underlying25; rfl; (first | with_reducible exact size25 | (rw [size25]; simp [hx, hy, hz])); simp only [Act.put, List.setIfInBounds_toArray, List.set_cons_zero, List.set_cons_succ]))
  refine (HC.out _).mono ?_
  rintro e w2 ⟨rfl, K⟩
  replace M := M.call K
  clear K HC
  go_wp2_with ((with_reducible apply W_storeK (b := c4)); rfl; rfl; exact M.r0; exact size25; (first | rfl | simp [hrl]); exact one64 _; intro w3 K hr3; replace M := Mem.callPut (L1 := []) M (Or.inr (by assumption)) K hr3; clear K hr3; simp only [List.cons_append, List.nil_append] at M)
  exact ret_ct Salg.results9 rfl M.r0 Salg.underlying25 rfl (by rw [size25]; simp [hrl]) rfl ⟨rfl, M.kept⟩

set_option maxHeartbeats 2000000 in
set_option maxRecDepth 100000 in
theorem wordAlu_6 (xs ys zs : List Nat) (w : World) (hx : xs.length = 4) (hy : ys.length = 4) (hz : zs.length = 4) (hLx : Limbs xs) (hLy : Limbs ys) (hLz : Limbs zs) :
    Calls Salg.prog 9 #[.int .u8 6, A64 xs, A64 ys, A64 zs] w fun e w' => e = .returned (.tuple #[A64 (nl 4 (remN (lval xs) (lval ys))), .bool true]) ∧ Kept [] w w' := by
  have M := Mem.start w []
  have HC := hid (fun w => wMod xs ys w hx hy hLx hLy)
  have hrl := nl_length 4 (remN (lval xs) (lval ys))
  generalize nl 4 (remN (lval xs) (lval ys)) = out at *
  clear hLx hLy hLz
  go_enter Salg.func9, Salg.ntmps9
  go_wp2_with (first
    | ((with_reducible apply L_box (d := 5) M); rfl; clear M; intro c1 w1 hc1 M; simp only [Act.put, List.setIfInBounds_toArray, List.set_cons_zero, List.set_cons_succ])
    | ((with_reducible apply L_box (d := 6) M); rfl; clear M; intro c2 w1 hc2 M; simp only [Act.put, List.setIfInBounds_toArray, List.set_cons_zero, List.set_cons_succ])
    | ((with_reducible apply L_box (d := 7) M); rfl; clear M; intro c3 w1 hc3 M; simp only [Act.put, List.setIfInBounds_toArray, List.set_cons_zero, List.set_cons_succ])
    | ((with_reducible apply L_allocA (d := 8) M); exact zero25; clear M; intro c4 w1 hc4 M; simp only [Act.put, List.setIfInBounds_toArray, List.set_cons_zero, List.set_cons_succ])
    | ((with_reducible apply W_loadAll); rfl; (first | with_reducible exact M.r0 | with_reducible exact M.r1 | with_reducible exact M.r2 | with_reducible exact M.r3 | with_reducible exact M.r4 | with_reducible exact M.r5 | with_reducible exact M.r6 | assumption | exact M.kept.row (by assumption) (by simp)); exact Salg.underlying25; rfl; (first | with_reducible exact size25 | (rw [size25]; simp [hx, hy, hz])); simp only [Act.put, List.setIfInBounds_toArray, List.set_cons_zero, List.set_cons_succ]))
  refine (HC.out _).mono ?_
  rintro e w2 ⟨rfl, K⟩
  replace M := M.call K
  clear K HC
  go_wp2_with ((with_reducible apply W_storeK (b := c4)); rfl; rfl; exact M.r0; exact size25; (first | rfl | simp [hrl]); exact one64 _; intro w3 K hr3; replace M := Mem.callPut (L1 := []) M (Or.inr (by assumption)) K hr3; clear K hr3; simp only [List.cons_append, List.nil_append] at M)
  exact ret_ct Salg.results9 rfl M.r0 Salg.underlying25 rfl (by rw [size25]; simp [hrl]) rfl ⟨rfl, M.kept⟩

set_option maxHeartbeats 2000000 in
set_option maxRecDepth 100000 in
theorem wordAlu_7 (xs ys zs : List Nat) (w : World) (hx : xs.length = 4) (hy : ys.length = 4) (hz : zs.length = 4) (hLx : Limbs xs) (hLy : Limbs ys) (hLz : Limbs zs) :
    Calls Salg.prog 9 #[.int .u8 7, A64 xs, A64 ys, A64 zs] w fun e w' => e = .returned (.tuple #[A64 (nl 4 (sgn (neg (lval xs)) (remN (sgn (neg (lval xs)) (lval xs)) (sgn (neg (lval ys)) (lval ys))))), .bool true]) ∧ Kept [] w w' := by
  have M := Mem.start w []
  have HC := hid (fun w => wSMod xs ys w hx hy hLx hLy)
  have hrl := nl_length 4 (sgn (neg (lval xs)) (remN (sgn (neg (lval xs)) (lval xs)) (sgn (neg (lval ys)) (lval ys))))
  generalize nl 4 (sgn (neg (lval xs)) (remN (sgn (neg (lval xs)) (lval xs)) (sgn (neg (lval ys)) (lval ys)))) = out at *
  clear hLx hLy hLz
  go_enter Salg.func9, Salg.ntmps9
  go_wp2_with (first
    | ((with_reducible apply L_box (d := 5) M); rfl; clear M; intro c1 w1 hc1 M; simp only [Act.put, List.setIfInBounds_toArray, List.set_cons_zero, List.set_cons_succ])
    | ((with_reducible apply L_box (d := 6) M); rfl; clear M; intro c2 w1 hc2 M; simp only [Act.put, List.setIfInBounds_toArray, List.set_cons_zero, List.set_cons_succ])
    | ((with_reducible apply L_box (d := 7) M); rfl; clear M; intro c3 w1 hc3 M; simp only [Act.put, List.setIfInBounds_toArray, List.set_cons_zero, List.set_cons_succ])
    | ((with_reducible apply L_allocA (d := 8) M); exact zero25; clear M; intro c4 w1 hc4 M; simp only [Act.put, List.setIfInBounds_toArray, List.set_cons_zero, List.set_cons_succ])
    | ((with_reducible apply W_loadAll); rfl; (first | with_reducible exact M.r0 | with_reducible exact M.r1 | with_reducible exact M.r2 | with_reducible exact M.r3 | with_reducible exact M.r4 | with_reducible exact M.r5 | with_reducible exact M.r6 | assumption | exact M.kept.row (by assumption) (by simp)); exact Salg.underlying25; rfl; (first | with_reducible exact size25 | (rw [size25]; simp [hx, hy, hz])); simp only [Act.put, List.setIfInBounds_toArray, List.set_cons_zero, List.set_cons_succ]))
  refine (HC.out _).mono ?_
  rintro e w2 ⟨rfl, K⟩
  replace M := M.call K
  clear K HC
  go_wp2_with ((with_reducible apply W_storeK (b := c4)); rfl; rfl; exact M.r0; exact size25; (first | rfl | simp [hrl]); exact one64 _; intro w3 K hr3; replace M := Mem.callPut (L1 := []) M (Or.inr (by assumption)) K hr3; clear K hr3; simp only [List.cons_append, List.nil_append] at M)
  exact ret_ct Salg.results9 rfl M.r0 Salg.underlying25 rfl (by rw [size25]; simp [hrl]) rfl ⟨rfl, M.kept⟩

set_option maxHeartbeats 2000000 in
set_option maxRecDepth 100000 in
theorem wordAlu_8 (xs ys zs : List Nat) (w : World) (hx : xs.length = 4) (hy : ys.length = 4) (hz : zs.length = 4) (hLx : Limbs xs) (hLy : Limbs ys) (hLz : Limbs zs) :
    Calls Salg.prog 9 #[.int .u8 8, A64 xs, A64 ys, A64 zs] w fun e w' => e = .returned (.tuple #[A64 (nl 4 (remN (lval xs + lval ys) (lval zs))), .bool true]) ∧ Kept [] w w' := by
  have M := Mem.start w []
  have HC := hid (fun w => wAddMod xs ys zs w hx hy hz hLx hLy hLz)
  have hrl := nl_length 4 (remN (lval xs + lval ys) (lval zs))
  generalize nl 4 (remN (lval xs + lval ys) (lval zs)) = out at *
  clear hLx hLy hLz
  go_enter Salg.func9, Salg.ntmps9
  go_wp2_with (first
    | ((with_reducible apply L_box (d := 5) M); rfl; clear M; intro c1 w1 hc1 M; simp only [Act.put, List.setIfInBounds_toArray, List.set_cons_zero, List.set_cons_succ])
    | ((with_reducible apply L_box (d := 6) M); rfl; clear M; intro c2 w1 hc2 M; simp only [Act.put, List.setIfInBounds_toArray, List.set_cons_zero, List.set_cons_succ])
    | ((with_reducible apply L_box (d := 7) M); rfl; clear M; intro c3 w1 hc3 M; simp only [Act.put, List.setIfInBounds_toArray, List.set_cons_zero, List.set_cons_succ])
    | ((with_reducible apply L_allocA (d := 8) M); exact zero25; clear M; intro c4 w1 hc4 M; simp only [Act.put, List.setIfInBounds_toArray, List.set_cons_zero, List.set_cons_succ])
    | ((with_reducible apply W_loadAll); rfl; (first | with_reducible exact M.r0 | with_reducible exact M.r1 | with_reducible exact M.r2 | with_reducible exact M.r3 | with_reducible exact M.r4 | with_reducible exact M.r5 | with_reducible exact M.r6 | assumption | exact M.kept.row (by assumption) (by simp)); exact Salg.underlying25; rfl; (first | with_reducible exact size25 | (rw [size25]; simp [hx, hy, hz])); simp only [Act.put, List.setIfInBounds_toArray, List.set_cons_zero, List.set_cons_succ]))
  refine (HC.out _).mono ?_
  rintro e w2 ⟨rfl, K⟩
  replace M := M.call K
  clear K HC
  go_wp2_with ((with_reducible apply W_storeK (b := c4)); rfl; rfl; exact M.r0; exact size25; (first | rfl | simp [hrl]); exact one64 _; intro w3 K hr3; replace M := Mem.callPut (L1 := []) M (Or.inr (by assumption)) K hr3; clear K hr3; simp only [List.cons_append, List.nil_append] at M)
  exact ret_ct Salg.results9 rfl M.r0 Salg.underlying25 rfl (by rw [size25]; simp [hrl]) rfl ⟨rfl, M.kept⟩

set_option maxHeartbeats 2000000 in
set_option maxRecDepth 100000 in
theorem wordAlu_9 (xs ys zs : List Nat) (w : World) (hx : xs.length = 4) (hy : ys.length = 4) (hz : zs.length = 4) (hLx : Limbs xs) (hLy : Limbs ys) (hLz : Limbs zs) :
    Calls Salg.prog 9 #[.int .u8 9, A64 xs, A64 ys, A64 zs] w fun e w' => e = .returned (.tuple #[A64 (nl 4 (remN (lval xs * lval ys) (lval zs))), .bool true]) ∧ Kept [] w w' := by
  have M := Mem.start w []
  have HC := hid (fun w => wMulMod xs ys zs w hx hy hz hLx hLy hLz)
  have hrl := nl_length 4 (remN (lval xs * lval ys) (lval zs))
  generalize nl 4 (remN (lval xs * lval ys) (lval zs)) = out at *
  clear hLx hLy hLz
  go_enter Salg.func9, Salg.ntmps9
  go_wp2_with (first
    | ((with_reducible apply L_box (d := 5) M); rfl; clear M; intro c1 w1 hc1 M; simp only [Act.put, List.setIfInBounds_toArray, List.set_cons_zero, List.set_cons_succ])
    | ((with_reducible apply L_box (d := 6) M); rfl; clear M; intro c2 w1 hc2 M; simp only [Act.put, List.setIfInBounds_toArray, List.set_cons_zero, List.set_cons_succ])
    | ((with_reducible apply L_box (d := 7) M); rfl; clear M; intro c3 w1 hc3 M; simp only [Act.put, List.setIfInBounds_toArray, List.set_cons_zero, List.set_cons_succ])
    | ((with_reducible apply L_allocA (d := 8) M); exact zero25; clear M; intro c4 w1 hc4 M; simp only [Act.put, List.setIfInBounds_toArray, List.set_cons_zero, List.set_cons_succ])
    | ((with_reducible apply W_loadAll); rfl; (first | with_reducible exact M.r0 | with_reducible exact M.r1 | with_reducible exact M.r2 | with_reducible exact M.r3 | with_reducible exact M.r4 | with_reducible exact M.r5 | with_reducible exact M.r6 | assumption | exact M.kept.row (by assumption) (by simp)); exact Salg.underlying25; rfl; (first | with_reducible exact size25 | (rw [size25]; simp [hx, hy, hz])); simp only [Act.put, List.setIfInBounds_toArray, List.set_cons_zero, List.set_cons_succ]))
  refine (HC.out _).mono ?_
  rintro e w2 ⟨rfl, K⟩
  replace M := M.call K
  clear K HC
  go_wp2_with ((with_reducible apply W_storeK (b := c4)); rfl; rfl; exact M.r0; exact size25; (first | rfl | simp [hrl]); exact one64 _; intro w3 K hr3; replace M := Mem.callPut (L1 := []) M (Or.inr (by assumption)) K hr3; clear K hr3; simp only [List.cons_append, List.nil_append] at M)
  exact ret_ct Salg.results9 rfl M.r0 Salg.underlying25 rfl (by rw [size25]; simp [hrl]) rfl ⟨rfl, M.kept⟩

set_option maxHeartbeats 2000000 in
set_option maxRecDepth 100000 in
theorem wordAlu_10 (xs ys zs : List Nat) (w : World) (hx : xs.length = 4) (hy : ys.length = 4) (hz : zs.length = 4) (hLx : Limbs xs) (hLy : Limbs ys) (hLz : Limbs zs) :
    Calls Salg.prog 9 #[.int .u8 10, A64 xs, A64 ys, A64 zs] w fun e w' => e = .returned (.tuple #[A64 (nl 4 (expN (lval xs) (lval ys))), .bool true]) ∧ Kept [] w w' := by
  have M := Mem.start w []
  have HC := hid (fun w => wExp xs ys w hx hy hLx hLy)
  have hrl := nl_length 4 (expN (lval xs) (lval ys))
  generalize nl 4 (expN (lval xs) (lval ys)) = out at *
  clear hLx hLy hLz
  go_enter Salg.func9, Salg.ntmps9
  go_wp2_with (first
    | ((with_reducible apply L_box (d := 5) M); rfl; clear M; intro c1 w1 hc1 M; simp only [Act.put, List.setIfInBounds_toArray, List.set_cons_zero, List.set_cons_succ])
    | ((with_reducible apply L_box (d := 6) M); rfl; clear M; intro c2 w1 hc2 M; simp only [Act.put, List.setIfInBounds_toArray, List.set_cons_zero, List.set_cons_succ])
    | ((with_reducible apply L_box (d := 7) M); rfl; clear M; intro c3 w1 hc3 M; simp only [Act.put, List.setIfInBounds_toArray, List.set_cons_zero, List.set_cons_succ])
    | ((with_reducible apply L_allocA (d := 8) M); exact zero25; clear M; intro c4 w1 hc4 M; simp only [Act.put, List.setIfInBounds_toArray, List.set_cons_zero, List.set_cons_succ])
    | ((with_reducible apply W_loadAll); rfl; (first | with_reducible exact M.r0 | with_reducible exact M.r1 | with_reducible exact M.r2 | with_reducible exact M.r3 | with_reducible exact M.r4 | with_reducible exact M.r5 | with_reducible exact M.r6 | assumption | exact M.kept.row (by assumption) (by simp)); exact Salg.underlying25; rfl; (first | with_reducible exact size25 | (rw [size25]; simp [hx, hy, hz])); simp only [Act.put, List.setIfInBounds_toArray, List.set_cons_zero, List.set_cons_succ]))
  refine (HC.out _).mono ?_
  rintro e w2 ⟨rfl, K⟩
  replace M := M.call K
  clear K HC
  go_wp2_with ((with_reducible apply W_storeK (b := c4)); rfl; rfl; exact M.r0; exact size25; (first | rfl | simp [hrl]); exact one64 _; intro w3 K hr3; replace M := Mem.callPut (L1 := []) M (Or.inr (by assumption)) K hr3; clear K hr3; simp only [List.cons_append, List.nil_append] at M)
  exact ret_ct Salg.results9 rfl M.r0 Salg.underlying25 rfl (by rw [size25]; simp [hrl]) rfl ⟨rfl, M.kept⟩

set_option maxHeartbeats 2000000 in
set_option maxRecDepth 100000 in
theorem wordAlu_11 (xs ys zs : List Nat) (w : World) (hx : xs.length = 4) (hy : ys.length = 4) (hz : zs.length = 4) (hLx : Limbs xs) (hLy : Limbs ys) (hLz : Limbs zs) :
    Calls Salg.prog 9 #[.int .u8 11, A64 xs, A64 ys, A64 zs] w fun e w' => e = .returned (.tuple #[A64 (nl 4 (sextN (lval xs) (lval ys))), .bool true]) ∧ Kept [] w w' := by
  have M := Mem.start w []
  have HC := hid (fun w => wSignExtend xs ys w hx hy hLx hLy)
  have hrl := nl_length 4 (sextN (lval xs) (lval ys))
  generalize nl 4 (sextN (lval xs) (lval ys)) = out at *
  clear hLx hLy hLz
  go_enter Salg.func9, Salg.ntmps9
  go_wp2_with (first
    | ((with_reducible apply L_box (d := 5) M); rfl; clear M; intro c1 w1 hc1 M; simp only [Act.put, List.setIfInBounds_toArray, List.set_cons_zero, List.set_cons_succ])
    | ((with_reducible apply L_box (d := 6) M); rfl; clear M; intro c2 w1 hc2 M; simp only [Act.put, List.setIfInBounds_toArray, List.set_cons_zero, List.set_cons_succ])
    | ((with_reducible apply L_box (d := 7) M); rfl; clear M; intro c3 w1 hc3 M; simp only [Act.put, List.setIfInBounds_toArray, List.set_cons_zero, List.set_cons_succ])
    | ((with_reducible apply L_allocA (d := 8) M); exact zero25; clear M; intro c4 w1 hc4 M; simp only [Act.put, List.setIfInBounds_toArray, List.set_cons_zero, List.set_cons_succ])
    | ((with_reducible apply W_loadAll); rfl; (first | with_reducible exact M.r0 | with_reducible exact M.r1 | with_reducible exact M.r2 | with_reducible exact M.r3 | with_reducible exact M.r4 | with_reducible exact M.r5 | with_reducible exact M.r6 | assumption | exact M.kept.row (by assumption) (by simp)); exact Salg.underlying25; rfl; (first | with_reducible exact size25 | (rw [size25]; simp [hx, hy, hz])); simp only [Act.put, List.setIfInBounds_toArray, List.set_cons_zero, List.set_cons_succ]))
  refine (HC.out _).mono ?_
  rintro e w2 ⟨rfl, K⟩
  replace M := M.call K
  clear K HC
  go_wp2_with ((with_reducible apply W_storeK (b := c4)); rfl; rfl; exact M.r0; exact size25; (first | rfl | simp [hrl]); exact one64 _; intro w3 K hr3; replace M := Mem.callPut (L1 := []) M (Or.inr (by assumption)) K hr3; clear K hr3; simp only [List.cons_append, List.nil_append] at M)
  exact ret_ct Salg.results9 rfl M.r0 Salg.underlying25 rfl (by rw [size25]; simp [hrl]) rfl ⟨rfl, M.kept⟩

set_option maxHeartbeats 2000000 in
set_option maxRecDepth 100000 in
theorem wordAlu_16 (xs ys zs : List Nat) (w : World) (hx : xs.length = 4) (hy : ys.length = 4) (hz : zs.length = 4) (hLx : Limbs xs) (hLy : Limbs ys) (hLz : Limbs zs) :
    Calls Salg.prog 9 #[.int .u8 16, A64 xs, A64 ys, A64 zs] w fun e w' => e = .returned (.tuple #[A64 (nl 4 (flag (decide (lval xs < lval ys)))), .bool true]) ∧ Kept [] w w' := by
  have M := Mem.start w []
  have HC := hid (fun w => wLt xs ys w hx hy hLx hLy)
  have HF : Hid (∀ w, Calls Salg.prog 49 #[.bool (decide (lval xs < lval ys))] w fun e w' => e = .returned (A64 (nl 4 (flag (decide (lval xs < lval ys))))) ∧ Kept [] w w') := fun w => wFlag (decide (lval xs < lval ys)) w
  have hrl := nl_length 4 (flag (decide (lval xs < lval ys)))
  generalize nl 4 (flag (decide (lval xs < lval ys))) = out at *
  generalize decide (lval xs < lval ys) = fl at *
  clear hLx hLy hLz
  go_enter Salg.func9, Salg.ntmps9
  go_wp2_with (first
    | ((with_reducible apply L_box (d := 5) M); rfl; clear M; intro c1 w1 hc1 M; simp only [Act.put, List.setIfInBounds_toArray, List.set_cons_zero, List.set_cons_succ])
    | ((with_reducible apply L_box (d := 6) M); rfl; clear M; intro c2 w1 hc2 M; simp only [Act.put, List.setIfInBounds_toArray, List.set_cons_zero, List.set_cons_succ])
    | ((with_reducible apply L_box (d := 7) M); rfl; clear M; intro c3 w1 hc3 M; simp only [Act.put, List.setIfInBounds_toArray, List.set_cons_zero, List.set_cons_succ])
    | ((with_reducible apply L_allocA (d := 8) M); exact zero25; clear M; intro c4 w1 hc4 M; simp only [Act.put, List.setIfInBounds_toArray, List.set_cons_zero, List.set_cons_succ])
    | ((with_reducible apply W_loadAll); rfl; (first | with_reducible exact M.r0 | with_reducible exact M.r1 | with_reducible exact M.r2 | with_reducible exact M.r3 | with_reducible exact M.r4 | with_reducible exact M.r5 | with_reducible exact M.r6 | assumption | exact M.kept.row (by assumption) (by simp)); exact Salg.underlying25; rfl; (first | with_reducible exact size25 | (rw [size25]; simp [hx, hy, hz])); simp only [Act.put, List.setIfInBounds_toArray, List.set_cons_zero, List.set_cons_succ]))
  refine (HC.out _).mono ?_
  rintro e w2 ⟨rfl, K⟩
  replace M := M.call K
  clear K HC
  go_wp2_with fail
  refine (HF.out _).mono ?_
  rintro e w3 ⟨rfl, K⟩
  replace M := M.call K
  clear K HF
  go_wp2_with ((with_reducible apply W_storeK (b := c4)); rfl; rfl; exact M.r0; exact size25; (first | rfl | simp [hrl]); exact one64 _; intro w3 K hr3; replace M := Mem.callPut (L1 := []) M (Or.inr (by assumption)) K hr3; clear K hr3; simp only [List.cons_append, List.nil_append] at M)
  exact ret_ct Salg.results9 rfl M.r0 Salg.underlying25 rfl (by rw [size25]; simp [hrl]) rfl ⟨rfl, M.kept⟩

set_option maxHeartbeats 2000000 in
set_option maxRecDepth 100000 in
theorem wordAlu_17 (xs ys zs : List Nat) (w : World) (hx : xs.length = 4) (hy : ys.length = 4) (hz : zs.length = 4) (hLx : Limbs xs) (hLy : Limbs ys) (hLz : Limbs zs) :
    Calls Salg.prog 9 #[.int .u8 17, A64 xs, A64 ys, A64 zs] w fun e w' => e = .returned (.tuple #[A64 (nl 4 (flag (decide (lval ys < lval xs)))), .bool true]) ∧ Kept [] w w' := by
  have M := Mem.start w []
  have HC := hid (fun w => wGt xs ys w hx hy hLx hLy)
  have HF : Hid (∀ w, Calls Salg.prog 49 #[.bool (decide (lval ys < lval xs))] w fun e w' => e = .returned (A64 (nl 4 (flag (decide (lval ys < lval xs))))) ∧ Kept [] w w') := fun w => wFlag (decide (lval ys < lval xs)) w
  have hrl := nl_length 4 (flag (decide (lval ys < lval xs)))
  generalize nl 4 (flag (decide (lval ys < lval xs))) = out at *
  generalize decide (lval ys < lval xs) = fl at *
  clear hLx hLy hLz
  go_enter Salg.func9, Salg.ntmps9
  go_wp2_with (first
    | ((with_reducible apply L_box (d := 5) M); rfl; clear M; intro c1 w1 hc1 M; simp only [Act.put, List.setIfInBounds_toArray, List.set_cons_zero, List.set_cons_succ])
    | ((with_reducible apply L_box (d := 6) M); rfl; clear M; intro c2 w1 hc2 M; simp only [Act.put, List.setIfInBounds_toArray, List.set_cons_zero, List.set_cons_succ])
    | ((with_reducible apply L_box (d := 7) M); rfl; clear M; intro c3 w1 hc3 M; simp only [Act.put, List.setIfInBounds_toArray, List.set_cons_zero, List.set_cons_succ])
    | ((with_reducible apply L_allocA (d := 8) M); exact zero25; clear M; intro c4 w1 hc4 M; simp only [Act.put, List.setIfInBounds_toArray, List.set_cons_zero, List.set_cons_succ])
    | ((with_reducible apply W_loadAll); rfl; (first | with_reducible exact M.r0 | with_reducible exact M.r1 | with_reducible exact M.r2 | with_reducible exact M.r3 | with_reducible exact M.r4 | with_reducible exact M.r5 | with_reducible exact M.r6 | assumption | exact M.kept.row (by assumption) (by simp)); exact Salg.underlying25; rfl; (first | with_reducible exact size25 | (rw [size25]; simp [hx, hy, hz])); simp only [Act.put, List.setIfInBounds_toArray, List.set_cons_zero, List.set_cons_succ]))
  refine (HC.out _).mono ?_
  rintro e w2 ⟨rfl, K⟩
  replace M := M.call K
  clear K HC
  go_wp2_with fail
  refine (HF.out _).mono ?_
  rintro e w3 ⟨rfl, K⟩
  replace M := M.call K
  clear K HF
  go_wp2_with ((with_reducible apply W_storeK (b := c4)); rfl; rfl; exact M.r0; exact size25; (first | rfl | simp [hrl]); exact one64 _; intro w3 K hr3; replace M := Mem.callPut (L1 := []) M (Or.inr (by assumption)) K hr3; clear K hr3; simp only [List.cons_append, List.nil_append] at M)
  exact ret_ct Salg.results9 rfl M.r0 Salg.underlying25 rfl (by rw [size25]; simp [hrl]) rfl ⟨rfl, M.kept⟩

set_option maxHeartbeats 2000000 in
set_option maxRecDepth 100000 in
theorem wordAlu_18 (xs ys zs : List Nat) (w : World) (hx : xs.length = 4) (hy : ys.length = 4) (hz : zs.length = 4) (hLx : Limbs xs) (hLy : Limbs ys) (hLz : Limbs zs) :
    Calls Salg.prog 9 #[.int .u8 18, A64 xs, A64 ys, A64 zs] w fun e w' => e = .returned (.tuple #[A64 (nl 4 (flag (slt (lval xs) (lval ys)))), .bool true]) ∧ Kept [] w w' := by
  have M := Mem.start w []
  have HC := hid (fun w => wSlt xs ys w hx hy hLx hLy)
  have HF : Hid (∀ w, Calls Salg.prog 49 #[.bool (slt (lval xs) (lval ys))] w fun e w' => e = .returned (A64 (nl 4 (flag (slt (lval xs) (lval ys))))) ∧ Kept [] w w') := fun w => wFlag (slt (lval xs) (lval ys)) w
  have hrl := nl_length 4 (flag (slt (lval xs) (lval ys)))
  generalize nl 4 (flag (slt (lval xs) (lval ys))) = out at *
  generalize slt (lval xs) (lval ys) = fl at *
  clear hLx hLy hLz
  go_enter Salg.func9, Salg.ntmps9
  go_wp2_with (first
    | ((with_reducible apply L_box (d := 5) M); rfl; clear M; intro c1 w1 hc1 M; simp only [Act.put, List.setIfInBounds_toArray, List.set_cons_zero, List.set_cons_succ])
    | ((with_reducible apply L_box (d := 6) M); rfl; clear M; intro c2 w1 hc2 M; simp only [Act.put, List.setIfInBounds_toArray, List.set_cons_zero, List.set_cons_succ])
    | ((with_reducible apply L_box (d := 7) M); rfl; clear M; intro c3 w1 hc3 M; simp only [Act.put, List.setIfInBounds_toArray, List.set_cons_zero, List.set_cons_succ])
    | ((with_reducible apply L_allocA (d := 8) M); exact zero25; clear M; intro c4 w1 hc4 M; simp only [Act.put, List.setIfInBounds_toArray, List.set_cons_zero, List.set_cons_succ])
    | ((with_reducible apply W_loadAll); rfl; (first | with_reducible exact M.r0 | with_reducible exact M.r1 | with_reducible exact M.r2 | with_reducible exact M.r3 | with_reducible exact M.r4 | with_reducible exact M.r5 | with_reducible exact M.r6 | assumption | exact M.kept.row (by assumption) (by simp)); exact Salg.underlying25; rfl; (first | with_reducible exact size25 | (rw [size25]; simp [hx, hy, hz])); simp only [Act.put, List.setIfInBounds_toArray, List.set_cons_zero, List.set_cons_succ]))
  refine (HC.out _).mono ?_
  rintro e w2 ⟨rfl, K⟩
  replace M := M.call K
  clear K HC
  go_wp2_with fail
  refine (HF.out _).mono ?_
  rintro e w3 ⟨rfl, K⟩
  replace M := M.call K
  clear K HF
  go_wp2_with ((with_reducible apply W_storeK (b := c4)); rfl; rfl; exact M.r0; exact size25; (first | rfl | simp [hrl]); exact one64 _; intro w3 K hr3; replace M := Mem.callPut (L1 := []) M (Or.inr (by assumption)) K hr3; clear K hr3; simp only [List.cons_append, List.nil_append] at M)
  exact ret_ct Salg.results9 rfl M.r0 Salg.underlying25 rfl (by rw [size25]; simp [hrl]) rfl ⟨rfl, M.kept⟩

set_option maxHeartbeats 2000000 in
set_option maxRecDepth 100000 in
theorem wordAlu_19 (xs ys zs : List Nat) (w : World) (hx : xs.length = 4) (hy : ys.length = 4) (hz : zs.length = 4) (hLx : Limbs xs) (hLy : Limbs ys) (hLz : Limbs zs) :
    Calls Salg.prog 9 #[.int .u8 19, A64 xs, A64 ys, A64 zs] w fun e w' => e = .returned (.tuple #[A64 (nl 4 (flag (slt (lval ys) (lval xs)))), .bool true]) ∧ Kept [] w w' := by
  have M := Mem.start w []
  have HC := hid (fun w => wSgt xs ys w hx hy hLx hLy)
  have HF : Hid (∀ w, Calls Salg.prog 49 #[.bool (slt (lval ys) (lval xs))] w fun e w' => e = .returned (A64 (nl 4 (flag (slt (lval ys) (lval xs))))) ∧ Kept [] w w') := fun w => wFlag (slt (lval ys) (lval xs)) w
  have hrl := nl_length 4 (flag (slt (lval ys) (lval xs)))
  generalize nl 4 (flag (slt (lval ys) (lval xs))) = out at *
  generalize slt (lval ys) (lval xs) = fl at *
  clear hLx hLy hLz
  go_enter Salg.func9, Salg.ntmps9
  go_wp2_with (first
    | ((with_reducible apply L_box (d := 5) M); rfl; clear M; intro c1 w1 hc1 M; simp only [Act.put, List.setIfInBounds_toArray, List.set_cons_zero, List.set_cons_succ])
    | ((with_reducible apply L_box (d := 6) M); rfl; clear M; intro c2 w1 hc2 M; simp only [Act.put, List.setIfInBounds_toArray, List.set_cons_zero, List.set_cons_succ])
    | ((with_reducible apply L_box (d := 7) M); rfl; clear M; intro c3 w1 hc3 M; simp only [Act.put, List.setIfInBounds_toArray, List.set_cons_zero, List.set_cons_succ])
    | ((with_reducible apply L_allocA (d := 8) M); exact zero25; clear M; intro c4 w1 hc4 M; simp only [Act.put, List.setIfInBounds_toArray, List.set_cons_zero, List.set_cons_succ])
    | ((with_reducible apply W_loadAll); rfl; (first | with_reducible exact M.r0 | with_reducible exact M.r1 | with_reducible exact M.r2 | with_reducible exact M.r3 | with_reducible exact M.r4 | with_reducible exact M.r5 | with_reducible exact M.r6 | assumption | exact M.kept.row (by assumption) (by simp)); exact Salg.underlying25; rfl; (first | with_reducible exact size25 | (rw [size25]; simp [hx, hy, hz])); simp only [Act.put, List.setIfInBounds_toArray, List.set_cons_zero, List.set_cons_succ]))
  refine (HC.out _).mono ?_
  rintro e w2 ⟨rfl, K⟩
  replace M := M.call K
  clear K HC
  go_wp2_with fail
  refine (HF.out _).mono ?_
  rintro e w3 ⟨rfl, K⟩
  replace M := M.call K
  clear K HF
  go_wp2_with ((with_reducible apply W_storeK (b := c4)); rfl; rfl; exact M.r0; exact size25; (first | rfl | simp [hrl]); exact one64 _; intro w3 K hr3; replace M := Mem.callPut (L1 := []) M (Or.inr (by assumption)) K hr3; clear K hr3; simp only [List.cons_append, List.nil_append] at M)
  exact ret_ct Salg.results9 rfl M.r0 Salg.underlying25 rfl (by rw [size25]; simp [hrl]) rfl ⟨rfl, M.kept⟩

set_option maxHeartbeats 2000000 in
set_option maxRecDepth 100000 in
theorem wordAlu_20 (xs ys zs : List Nat) (w : World) (hx : xs.length = 4) (hy : ys.length = 4) (hz : zs.length = 4) (hLx : Limbs xs) (hLy : Limbs ys) (hLz : Limbs zs) :
    Calls Salg.prog 9 #[.int .u8 20, A64 xs, A64 ys, A64 zs] w fun e w' => e = .returned (.tuple #[A64 (nl 4 (flag (decide (lval xs = lval ys)))), .bool true]) ∧ Kept [] w w' := by
  have M := Mem.start w []
  have HF : Hid (∀ w, Calls Salg.prog 49 #[.bool (decide (lval xs = lval ys))] w fun e w' => e = .returned (A64 (nl 4 (flag (decide (lval xs = lval ys))))) ∧ Kept [] w w') := fun w => wFlag (decide (lval xs = lval ys)) w
  have he : decide (lval xs = lval ys) = decide (xs = ys) := by
    rw [Bool.eq_iff_iff]
    simp only [decide_eq_true_eq]
    exact ⟨fun h => by rw [← nl_all hLx hx, ← nl_all hLy hy, h], fun h => by rw [h]⟩
  rw [he] at HF ⊢
  clear he
  have hrl := nl_length 4 (flag (decide (xs = ys)))
  generalize nl 4 (flag (decide (xs = ys))) = out at *
  clear hLx hLy hLz
  go_enter Salg.func9, Salg.ntmps9
  go_wp2_with (first
    | ((with_reducible apply L_box (d := 5) M); rfl; clear M; intro c1 w1 hc1 M; simp only [Act.put, List.setIfInBounds_toArray, List.set_cons_zero, List.set_cons_succ])
    | ((with_reducible apply L_box (d := 6) M); rfl; clear M; intro c2 w1 hc2 M; simp only [Act.put, List.setIfInBounds_toArray, List.set_cons_zero, List.set_cons_succ])
    | ((with_reducible apply L_box (d := 7) M); rfl; clear M; intro c3 w1 hc3 M; simp only [Act.put, List.setIfInBounds_toArray, List.set_cons_zero, List.set_cons_succ])
    | ((with_reducible apply L_allocA (d := 8) M); exact zero25; clear M; intro c4 w1 hc4 M; simp only [Act.put, List.setIfInBounds_toArray, List.set_cons_zero, List.set_cons_succ])
    | ((with_reducible apply W_loadAll); rfl; (first | with_reducible exact M.r0 | with_reducible exact M.r1 | with_reducible exact M.r2 | with_reducible exact M.r3 | with_reducible exact M.r4 | with_reducible exact M.r5 | with_reducible exact M.r6 | assumption | exact M.kept.row (by assumption) (by simp)); exact Salg.underlying25; rfl; (first | with_reducible exact size25 | (rw [size25]; simp [hx, hy, hz])); simp only [Act.put, List.setIfInBounds_toArray, List.set_cons_zero, List.set_cons_succ])
    | ((with_reducible apply W_eql64); rfl; rfl; exact Salg.underlying25; exact Salg.underlying23; exact size23; exact guard25; exact hx; exact hy; simp only [Act.put, List.setIfInBounds_toArray, List.set_cons_zero, List.set_cons_succ]))
  refine (HF.out _).mono ?_
  rintro e w3 ⟨rfl, K⟩
  replace M := M.call K
  clear K HF
  go_wp2_with ((with_reducible apply W_storeK (b := c4)); rfl; rfl; exact M.r0; exact size25; (first | rfl | simp [hrl]); exact one64 _; intro w3 K hr3; replace M := Mem.callPut (L1 := []) M (Or.inr (by assumption)) K hr3; clear K hr3; simp only [List.cons_append, List.nil_append] at M)
  exact ret_ct Salg.results9 rfl M.r0 Salg.underlying25 rfl (by rw [size25]; simp [hrl]) rfl ⟨rfl, M.kept⟩

set_option maxHeartbeats 2000000 in
set_option maxRecDepth 100000 in
theorem wordAlu_21 (xs ys zs : List Nat) (w : World) (hx : xs.length = 4) (hy : ys.length = 4) (hz : zs.length = 4) (hLx : Limbs xs) (hLy : Limbs ys) (hLz : Limbs zs) :
    Calls Salg.prog 9 #[.int .u8 21, A64 xs, A64 ys, A64 zs] w fun e w' => e = .returned (.tuple #[A64 (nl 4 (flag (decide (lval xs = 0)))), .bool true]) ∧ Kept [] w w' := by
  have M := Mem.start w []
  have HC := hid (fun w => wIsZero xs w hx hLx)
  have HF : Hid (∀ w, Calls Salg.prog 49 #[.bool (decide (lval xs = 0))] w fun e w' => e = .returned (A64 (nl 4 (flag (decide (lval xs = 0))))) ∧ Kept [] w w') := fun w => wFlag (decide (lval xs = 0)) w
  have hrl := nl_length 4 (flag (decide (lval xs = 0)))
  generalize nl 4 (flag (decide (lval xs = 0))) = out at *
  generalize decide (lval xs = 0) = fl at *
  clear hLx hLy hLz
  go_enter Salg.func9, Salg.ntmps9
  go_wp2_with (first
    | ((with_reducible apply L_box (d := 5) M); rfl; clear M; intro c1 w1 hc1 M; simp only [Act.put, List.setIfInBounds_toArray, List.set_cons_zero, List.set_cons_succ])
    | ((with_reducible apply L_box (d := 6) M); rfl; clear M; intro c2 w1 hc2 M; simp only [Act.put, List.setIfInBounds_toArray, List.set_cons_zero, List.set_cons_succ])
    | ((with_reducible apply L_box (d := 7) M); rfl; clear M; intro c3 w1 hc3 M; simp only [Act.put, List.setIfInBounds_toArray, List.set_cons_zero, List.set_cons_succ])
    | ((with_reducible apply L_allocA (d := 8) M); exact zero25; clear M; intro c4 w1 hc4 M; simp only [Act.put, List.setIfInBounds_toArray, List.set_cons_zero, List.set_cons_succ])
    | ((with_reducible apply W_loadAll); rfl; (first | with_reducible exact M.r0 | with_reducible exact M.r1 | with_reducible exact M.r2 | with_reducible exact M.r3 | with_reducible exact M.r4 | with_reducible exact M.r5 | with_reducible exact M.r6 | assumption | exact M.kept.row (by assumption) (by simp)); exact Salg.underlying25; rfl; (first | with_reducible exact size25 | (rw [size25]; simp [hx, hy, hz])); simp only [Act.put, List.setIfInBounds_toArray, List.set_cons_zero, List.set_cons_succ]))
  refine (HC.out _).mono ?_
  rintro e w2 ⟨rfl, K⟩
  replace M := M.call K
  clear K HC
  go_wp2_with fail
  refine (HF.out _).mono ?_
  rintro e w3 ⟨rfl, K⟩
  replace M := M.call K
  clear K HF
  go_wp2_with ((with_reducible apply W_storeK (b := c4)); rfl; rfl; exact M.r0; exact size25; (first | rfl | simp [hrl]); exact one64 _; intro w3 K hr3; replace M := Mem.callPut (L1 := []) M (Or.inr (by assumption)) K hr3; clear K hr3; simp only [List.cons_append, List.nil_append] at M)
  exact ret_ct Salg.results9 rfl M.r0 Salg.underlying25 rfl (by rw [size25]; simp [hrl]) rfl ⟨rfl, M.kept⟩

set_option maxHeartbeats 2000000 in
set_option maxRecDepth 100000 in
theorem wordAlu_22 (xs ys zs : List Nat) (w : World) (hx : xs.length = 4) (hy : ys.length = 4) (hz : zs.length = 4) (hLx : Limbs xs) (hLy : Limbs ys) (hLz : Limbs zs) :
    Calls Salg.prog 9 #[.int .u8 22, A64 xs, A64 ys, A64 zs] w fun e w' => e = .returned (.tuple #[A64 (nl 4 (lval xs &&& lval ys)), .bool true]) ∧ Kept [] w w' := by
  have M := Mem.start w []
  have HC := hid (fun w => wAnd xs ys w hx hy hLx hLy)
  have hrl := nl_length 4 (lval xs &&& lval ys)
  generalize nl 4 (lval xs &&& lval ys) = out at *
  clear hLx hLy hLz
  go_enter Salg.func9, Salg.ntmps9
  go_wp2_with (first
    | ((with_reducible apply L_box (d := 5) M); rfl; clear M; intro c1 w1 hc1 M; simp only [Act.put, List.setIfInBounds_toArray, List.set_cons_zero, List.set_cons_succ])
    | ((with_reducible apply L_box (d := 6) M); rfl; clear M; intro c2 w1 hc2 M; simp only [Act.put, List.setIfInBounds_toArray, List.set_cons_zero, List.set_cons_succ])
    | ((with_reducible apply L_box (d := 7) M); rfl; clear M; intro c3 w1 hc3 M; simp only [Act.put, List.setIfInBounds_toArray, List.set_cons_zero, List.set_cons_succ])
    | ((with_reducible apply L_allocA (d := 8) M); exact zero25; clear M; intro c4 w1 hc4 M; simp only [Act.put, List.setIfInBounds_toArray, List.set_cons_zero, List.set_cons_succ])
    | ((with_reducible apply W_loadAll); rfl; (first | with_reducible exact M.r0 | with_reducible exact M.r1 | with_reducible exact M.r2 | with_reducible exact M.r3 | with_reducible exact M.r4 | with_reducible exact M.r5 | with_reducible exact M.r6 | assumption | exact M.kept.row (by assumption) (by simp)); exact Salg.underlying25; rfl; (first | with_reducible exact size25 | (rw [size25]; simp [hx, hy, hz])); simp only [Act.put, List.setIfInBounds_toArray, List.set_cons_zero, List.set_cons_succ]))
  refine (HC.out _).mono ?_
  rintro e w2 ⟨rfl, K⟩
  replace M := M.call K
  clear K HC
  go_wp2_with ((with_reducible apply W_storeK (b := c4)); rfl; rfl; exact M.r0; exact size25; (first | rfl | simp [hrl]); exact one64 _; intro w3 K hr3; replace M := Mem.callPut (L1 := []) M (Or.inr (by assumption)) K hr3; clear K hr3; simp only [List.cons_append, List.nil_append] at M)
  exact ret_ct Salg.results9 rfl M.r0 Salg.underlying25 rfl (by rw [size25]; simp [hrl]) rfl ⟨rfl, M.kept⟩

set_option maxHeartbeats 2000000 in
set_option maxRecDepth 100000 in
theorem wordAlu_23 (xs ys zs : List Nat) (w : World) (hx : xs.length = 4) (hy : ys.length = 4) (hz : zs.length = 4) (hLx : Limbs xs) (hLy : Limbs ys) (hLz : Limbs zs) :
    Calls Salg.prog 9 #[.int .u8 23, A64 xs, A64 ys, A64 zs] w fun e w' => e = .returned (.tuple #[A64 (nl 4 (lval xs ||| lval ys)), .bool true]) ∧ Kept [] w w' := by
  have M := Mem.start w []
  have HC := hid (fun w => wOr xs ys w hx hy hLx hLy)
  have hrl := nl_length 4 (lval xs ||| lval ys)
  generalize nl 4 (lval xs ||| lval ys) = out at *
  clear hLx hLy hLz
  go_enter Salg.func9, Salg.ntmps9
  go_wp2_with (first
    | ((with_reducible apply L_box (d := 5) M); rfl; clear M; intro c1 w1 hc1 M; simp only [Act.put, List.setIfInBounds_toArray, List.set_cons_zero, List.set_cons_succ])
    | ((with_reducible apply L_box (d := 6) M); rfl; clear M; intro c2 w1 hc2 M; simp only [Act.put, List.setIfInBounds_toArray, List.set_cons_zero, List.set_cons_succ])
    | ((with_reducible apply L_box (d := 7) M); rfl; clear M; intro c3 w1 hc3 M; simp only [Act.put, List.setIfInBounds_toArray, List.set_cons_zero, List.set_cons_succ])
    | ((with_reducible apply L_allocA (d := 8) M); exact zero25; clear M; intro c4 w1 hc4 M; simp only [Act.put, List.setIfInBounds_toArray, List.set_cons_zero, List.set_cons_succ])
    | ((with_reducible apply W_loadAll); rfl; (first | with_reducible exact M.r0 | with_reducible exact M.r1 | with_reducible exact M.r2 | with_reducible exact M.r3 | with_reducible exact M.r4 | with_reducible exact M.r5 | with_reducible exact M.r6 | assumption | exact M.kept.row (by assumption) (by simp)); exact Salg.underlying25; rfl; (first | with_reducible exact size25 | (rw [size25]; simp [hx, hy, hz])); simp only [Act.put, List.setIfInBounds_toArray, List.set_cons_zero, List.set_cons_succ]))
  refine (HC.out _).mono ?_
  rintro e w2 ⟨rfl, K⟩
  replace M := M.call K
  clear K HC
  go_wp2_with ((with_reducible apply W_storeK (b := c4)); rfl; rfl; exact M.r0; exact size25; (first | rfl | simp [hrl]); exact one64 _; intro w3 K hr3; replace M := Mem.callPut (L1 := []) M (Or.inr (by assumption)) K hr3; clear K hr3; simp only [List.cons_append, List.nil_append] at M)
  exact ret_ct Salg.results9 rfl M.r0 Salg.underlying25 rfl (by rw [size25]; simp [hrl]) rfl ⟨rfl, M.kept⟩

set_option maxHeartbeats 2000000 in
set_option maxRecDepth 100000 in
theorem wordAlu_24 (xs ys zs : List Nat) (w : World) (hx : xs.length = 4) (hy : ys.length = 4) (hz : zs.length = 4) (hLx : Limbs xs) (hLy : Limbs ys) (hLz : Limbs zs) :
    Calls Salg.prog 9 #[.int .u8 24, A64 xs, A64 ys, A64 zs] w fun e w' => e = .returned (.tuple #[A64 (nl 4 (lval xs ^^^ lval ys)), .bool true]) ∧ Kept [] w w' := by
  have M := Mem.start w []
  have HC := hid (fun w => wXor xs ys w hx hy hLx hLy)
  have hrl := nl_length 4 (lval xs ^^^ lval ys)
  generalize nl 4 (lval xs ^^^ lval ys) = out at *
  clear hLx hLy hLz
  go_enter Salg.func9, Salg.ntmps9
  go_wp2_with (first
    | ((with_reducible apply L_box (d := 5) M); rfl; clear M; intro c1 w1 hc1 M; simp only [Act.put, List.setIfInBounds_toArray, List.set_cons_zero, List.set_cons_succ])
    | ((with_reducible apply L_box (d := 6) M); rfl; clear M; intro c2 w1 hc2 M; simp only [Act.put, List.setIfInBounds_toArray, List.set_cons_zero, List.set_cons_succ])
    | ((with_reducible apply L_box (d := 7) M); rfl; clear M; intro c3 w1 hc3 M; simp only [Act.put, List.setIfInBounds_toArray, List.set_cons_zero, List.set_cons_succ])
    | ((with_reducible apply L_allocA (d := 8) M); exact zero25; clear M; intro c4 w1 hc4 M; simp only [Act.put, List.setIfInBounds_toArray, List.set_cons_zero, List.set_cons_succ])
    | ((with_reducible apply W_loadAll); rfl; (first | with_reducible exact M.r0 | with_reducible exact M.r1 | with_reducible exact M.r2 | with_reducible exact M.r3 | with_reducible exact M.r4 | with_reducible exact M.r5 | with_reducible exact M.r6 | assumption | exact M.kept.row (by assumption) (by simp)); exact Salg.underlying25; rfl; (first | with_reducible exact size25 | (rw [size25]; simp [hx, hy, hz])); simp only [Act.put, List.setIfInBounds_toArray, List.set_cons_zero, List.set_cons_succ]))
  refine (HC.out _).mono ?_
  rintro e w2 ⟨rfl, K⟩
  replace M := M.call K
  clear K HC
  go_wp2_with ((with_reducible apply W_storeK (b := c4)); rfl; rfl; exact M.r0; exact size25; (first | rfl | simp [hrl]); exact one64 _; intro w3 K hr3; replace M := Mem.callPut (L1 := []) M (Or.inr (by assumption)) K hr3; clear K hr3; simp only [List.cons_append, List.nil_append] at M)
  exact ret_ct Salg.results9 rfl M.r0 Salg.underlying25 rfl (by rw [size25]; simp [hrl]) rfl ⟨rfl, M.kept⟩

set_option maxHeartbeats 2000000 in
set_option maxRecDepth 100000 in
theorem wordAlu_25 (xs ys zs : List Nat) (w : World) (hx : xs.length = 4) (hy : ys.length = 4) (hz : zs.length = 4) (hLx : Limbs xs) (hLy : Limbs ys) (hLz : Limbs zs) :
    Calls Salg.prog 9 #[.int .u8 25, A64 xs, A64 ys, A64 zs] w fun e w' => e = .returned (.tuple #[A64 (nl 4 (18446744073709551616 ^ 4 - 1 - lval xs)), .bool true]) ∧ Kept [] w w' := by
  have M := Mem.start w []
  have HC := hid (fun w => wNot xs w hx hLx)
  have hrl := nl_length 4 (18446744073709551616 ^ 4 - 1 - lval xs)
  generalize nl 4 (18446744073709551616 ^ 4 - 1 - lval xs) = out at *
  clear hLx hLy hLz
  go_enter Salg.func9, Salg.ntmps9
  go_wp2_with (first
    | ((with_reducible apply L_box (d := 5) M); rfl; clear M; intro c1 w1 hc1 M; simp only [Act.put, List.setIfInBounds_toArray, List.set_cons_zero, List.set_cons_succ])
    | ((with_reducible apply L_box (d := 6) M); rfl; clear M; intro c2 w1 hc2 M; simp only [Act.put, List.setIfInBounds_toArray, List.set_cons_zero, List.set_cons_succ])
    | ((with_reducible apply L_box (d := 7) M); rfl; clear M; intro c3 w1 hc3 M; simp only [Act.put, List.setIfInBounds_toArray, List.set_cons_zero, List.set_cons_succ])
    | ((with_reducible apply L_allocA (d := 8) M); exact zero25; clear M; intro c4 w1 hc4 M; simp only [Act.put, List.setIfInBounds_toArray, List.set_cons_zero, List.set_cons_succ])
    | ((with_reducible apply W_loadAll); rfl; (first | with_reducible exact M.r0 | with_reducible exact M.r1 | with_reducible exact M.r2 | with_reducible exact M.r3 | with_reducible exact M.r4 | with_reducible exact M.r5 | with_reducible exact M.r6 | assumption | exact M.kept.row (by assumption) (by simp)); exact Salg.underlying25; rfl; (first | with_reducible exact size25 | (rw [size25]; simp [hx, hy, hz])); simp only [Act.put, List.setIfInBounds_toArray, List.set_cons_zero, List.set_cons_succ]))
  refine (HC.out _).mono ?_
  rintro e w2 ⟨rfl, K⟩
  replace M := M.call K
  clear K HC
  go_wp2_with ((with_reducible apply W_storeK (b := c4)); rfl; rfl; exact M.r0; exact size25; (first | rfl | simp [hrl]); exact one64 _; intro w3 K hr3; replace M := Mem.callPut (L1 := []) M (Or.inr (by assumption)) K hr3; clear K hr3; simp only [List.cons_append, List.nil_append] at M)
  exact ret_ct Salg.results9 rfl M.r0 Salg.underlying25 rfl (by rw [size25]; simp [hrl]) rfl ⟨rfl, M.kept⟩

set_option maxHeartbeats 2000000 in
set_option maxRecDepth 100000 in
theorem wordAlu_26 (xs ys zs : List Nat) (w : World) (hx : xs.length = 4) (hy : ys.length = 4) (hz : zs.length = 4) (hLx : Limbs xs) (hLy : Limbs ys) (hLz : Limbs zs) :
    Calls Salg.prog 9 #[.int .u8 26, A64 xs, A64 ys, A64 zs] w fun e w' => e = .returned (.tuple #[A64 (nl 4 (byteN (lval xs) (lval ys))), .bool true]) ∧ Kept [] w w' := by
  have M := Mem.start w []
  have HC := hid (fun w => wByte xs ys w hx hy hLx hLy)
  have hrl := nl_length 4 (byteN (lval xs) (lval ys))
  generalize nl 4 (byteN (lval xs) (lval ys)) = out at *
  clear hLx hLy hLz
  go_enter Salg.func9, Salg.ntmps9
  go_wp2_with (first
    | ((with_reducible apply L_box (d := 5) M); rfl; clear M; intro c1 w1 hc1 M; simp only [Act.put, List.setIfInBounds_toArray, List.set_cons_zero, List.set_cons_succ])
    | ((with_reducible apply L_box (d := 6) M); rfl; clear M; intro c2 w1 hc2 M; simp only [Act.put, List.setIfInBounds_toArray, List.set_cons_zero, List.set_cons_succ])
    | ((with_reducible apply L_box (d := 7) M); rfl; clear M; intro c3 w1 hc3 M; simp only [Act.put, List.setIfInBounds_toArray, List.set_cons_zero, List.set_cons_succ])
    | ((with_reducible apply L_allocA (d := 8) M); exact zero25; clear M; intro c4 w1 hc4 M; simp only [Act.put, List.setIfInBounds_toArray, List.set_cons_zero, List.set_cons_succ])
    | ((with_reducible apply W_loadAll); rfl; (first | with_reducible exact M.r0 | with_reducible exact M.r1 | with_reducible exact M.r2 | with_reducible exact M.r3 | with_reducible exact M.r4 | with_reducible exact M.r5 | with_reducible exact M.r6 | assumption | exact M.kept.row (by assumption) (by simp)); exact Salg.underlying25; rfl; (first | with_reducible exact size25 | (rw [size25]; simp [hx, hy, hz])); simp only [Act.put, List.setIfInBounds_toArray, List.set_cons_zero, List.set_cons_succ]))
  refine (HC.out _).mono ?_
  rintro e w2 ⟨rfl, K⟩
  replace M := M.call K
  clear K HC
  go_wp2_with ((with_reducible apply W_storeK (b := c4)); rfl; rfl; exact M.r0; exact size25; (first | rfl | simp [hrl]); exact one64 _; intro w3 K hr3; replace M := Mem.callPut (L1 := []) M (Or.inr (by assumption)) K hr3; clear K hr3; simp only [List.cons_append, List.nil_append] at M)
  exact ret_ct Salg.results9 rfl M.r0 Salg.underlying25 rfl (by rw [size25]; simp [hrl]) rfl ⟨rfl, M.kept⟩

set_option maxHeartbeats 2000000 in
set_option maxRecDepth 100000 in
theorem wordAlu_27 (xs ys zs : List Nat) (w : World) (hx : xs.length = 4) (hy : ys.length = 4) (hz : zs.length = 4) (hLx : Limbs xs) (hLy : Limbs ys) (hLz : Limbs zs) :
    Calls Salg.prog 9 #[.int .u8 27, A64 xs, A64 ys, A64 zs] w fun e w' => e = .returned (.tuple #[A64 (nl 4 (shlN (lval xs) (lval ys))), .bool true]) ∧ Kept [] w w' := by
  have M := Mem.start w []
  have HC := hid (fun w => wShl xs ys w hx hy hLx hLy)
  have hrl := nl_length 4 (shlN (lval xs) (lval ys))
  generalize nl 4 (shlN (lval xs) (lval ys)) = out at *
  clear hLx hLy hLz
  go_enter Salg.func9, Salg.ntmps9
  go_wp2_with (first
    | ((with_reducible apply L_box (d := 5) M); rfl; clear M; intro c1 w1 hc1 M; simp only [Act.put, List.setIfInBounds_toArray, List.set_cons_zero, List.set_cons_succ])
    | ((with_reducible apply L_box (d := 6) M); rfl; clear M; intro c2 w1 hc2 M; simp only [Act.put, List.setIfInBounds_toArray, List.set_cons_zero, List.set_cons_succ])
    | ((with_reducible apply L_box (d := 7) M); rfl; clear M; intro c3 w1 hc3 M; simp only [Act.put, List.setIfInBounds_toArray, List.set_cons_zero, List.set_cons_succ])
    | ((with_reducible apply L_allocA (d := 8) M); exact zero25; clear M; intro c4 w1 hc4 M; simp only [Act.put, List.setIfInBounds_toArray, List.set_cons_zero, List.set_cons_succ])
    | ((with_reducible apply W_loadAll); rfl; (first | with_reducible exact M.r0 | with_reducible exact M.r1 | with_reducible exact M.r2 | with_reducible exact M.r3 | with_reducible exact M.r4 | with_reducible exact M.r5 | with_reducible exact M.r6 | assumption | exact M.kept.row (by assumption) (by simp)); exact Salg.underlying25; rfl; (first | with_reducible exact size25 | (rw [size25]; simp [hx, hy, hz])); simp only [Act.put, List.setIfInBounds_toArray, List.set_cons_zero, List.set_cons_succ]))
  refine (HC.out _).mono ?_
  rintro e w2 ⟨rfl, K⟩
  replace M := M.call K
  clear K HC
  go_wp2_with ((with_reducible apply W_storeK (b := c4)); rfl; rfl; exact M.r0; exact size25; (first | rfl | simp [hrl]); exact one64 _; intro w3 K hr3; replace M := Mem.callPut (L1 := []) M (Or.inr (by assumption)) K hr3; clear K hr3; simp only [List.cons_append, List.nil_append] at M)
  exact ret_ct Salg.results9 rfl M.r0 Salg.underlying25 rfl (by rw [size25]; simp [hrl]) rfl ⟨rfl, M.kept⟩

set_option maxHeartbeats 2000000 in
set_option maxRecDepth 100000 in
theorem wordAlu_28 (xs ys zs : List Nat) (w : World) (hx : xs.length = 4) (hy : ys.length = 4) (hz : zs.length = 4) (hLx : Limbs xs) (hLy : Limbs ys) (hLz : Limbs zs) :
    Calls Salg.prog 9 #[.int .u8 28, A64 xs, A64 ys, A64 zs] w fun e w' => e = .returned (.tuple #[A64 (nl 4 (shrN (lval xs) (lval ys))), .bool true]) ∧ Kept [] w w' := by
  have M := Mem.start w []
  have HC := hid (fun w => wShr xs ys w hx hy hLx hLy)
  have hrl := nl_length 4 (shrN (lval xs) (lval ys))
  generalize nl 4 (shrN (lval xs) (lval ys)) = out at *
  clear hLx hLy hLz
  go_enter Salg.func9, Salg.ntmps9
  go_wp2_with (first
    | ((with_reducible apply L_box (d := 5) M); rfl; clear M; intro c1 w1 hc1 M; simp only [Act.put, List.setIfInBounds_toArray, List.set_cons_zero, List.set_cons_succ])
    | ((with_reducible apply L_box (d := 6) M); rfl; clear M; intro c2 w1 hc2 M; simp only [Act.put, List.setIfInBounds_toArray, List.set_cons_zero, List.set_cons_succ])
    | ((with_reducible apply L_box (d := 7) M); rfl; clear M; intro c3 w1 hc3 M; simp only [Act.put, List.setIfInBounds_toArray, List.set_cons_zero, List.set_cons_succ])
    | ((with_reducible apply L_allocA (d := 8) M); exact zero25; clear M; intro c4 w1 hc4 M; simp only [Act.put, List.setIfInBounds_toArray, List.set_cons_zero, List.set_cons_succ])
    | ((with_reducible apply W_loadAll); rfl; (first | with_reducible exact M.r0 | with_reducible exact M.r1 | with_reducible exact M.r2 | with_reducible exact M.r3 | with_reducible exact M.r4 | with_reducible exact M.r5 | with_reducible exact M.r6 | assumption | exact M.kept.row (by assumption) (by simp)); exact Salg.underlying25; rfl; (first | with_reducible exact size25 | (rw [size25]; simp [hx, hy, hz])); simp only [Act.put, List.setIfInBounds_toArray, List.set_cons_zero, List.set_cons_succ]))
  refine (HC.out _).mono ?_
  rintro e w2 ⟨rfl, K⟩
  replace M := M.call K
  clear K HC
  go_wp2_with ((with_reducible apply W_storeK (b := c4)); rfl; rfl; exact M.r0; exact size25; (first | rfl | simp [hrl]); exact one64 _; intro w3 K hr3; replace M := Mem.callPut (L1 := []) M (Or.inr (by assumption)) K hr3; clear K hr3; simp only [List.cons_append, List.nil_append] at M)
  exact ret_ct Salg.results9 rfl M.r0 Salg.underlying25 rfl (by rw [size25]; simp [hrl]) rfl ⟨rfl, M.kept⟩

set_option maxHeartbeats 2000000 in
set_option maxRecDepth 100000 in
theorem wordAlu_29 (xs ys zs : List Nat) (w : World) (hx : xs.length = 4) (hy : ys.length = 4) (hz : zs.length = 4) (hLx : Limbs xs) (hLy : Limbs ys) (hLz : Limbs zs) :
    Calls Salg.prog 9 #[.int .u8 29, A64 xs, A64 ys, A64 zs] w fun e w' => e = .returned (.tuple #[A64 (nl 4 (sarN (lval xs) (lval ys))), .bool true]) ∧ Kept [] w w' := by
  have M := Mem.start w []
  have HC := hid (fun w => wSar xs ys w hx hy hLx hLy)
  have hrl := nl_length 4 (sarN (lval xs) (lval ys))
  generalize nl 4 (sarN (lval xs) (lval ys)) = out at *
  clear hLx hLy hLz
  go_enter Salg.func9, Salg.ntmps9
  go_wp2_with (first
    | ((with_reducible apply L_box (d := 5) M); rfl; clear M; intro c1 w1 hc1 M; simp only [Act.put, List.setIfInBounds_toArray, List.set_cons_zero, List.set_cons_succ])
    | ((with_reducible apply L_box (d := 6) M); rfl; clear M; intro c2 w1 hc2 M; simp only [Act.put, List.setIfInBounds_toArray, List.set_cons_zero, List.set_cons_succ])
    | ((with_reducible apply L_box (d := 7) M); rfl; clear M; intro c3 w1 hc3 M; simp only [Act.put, List.setIfInBounds_toArray, List.set_cons_zero, List.set_cons_succ])
    | ((with_reducible apply L_allocA (d := 8) M); exact zero25; clear M; intro c4 w1 hc4 M; simp only [Act.put, List.setIfInBounds_toArray, List.set_cons_zero, List.set_cons_succ])
    | ((with_reducible apply W_loadAll); rfl; (first | with_reducible exact M.r0 | with_reducible exact M.r1 | with_reducible exact M.r2 | with_reducible exact M.r3 | with_reducible exact M.r4 | with_reducible exact M.r5 | with_reducible exact M.r6 | assumption | exact M.kept.row (by assumption) (by simp)); exact Salg.underlying25; rfl; (first | with_reducible exact size25 | (rw [size25]; simp [hx, hy, hz])); simp only [Act.put, List.setIfInBounds_toArray, List.set_cons_zero, List.set_cons_succ]))
  refine (HC.out _).mono ?_
  rintro e w2 ⟨rfl, K⟩
  replace M := M.call K
  clear K HC
  go_wp2_with ((with_reducible apply W_storeK (b := c4)); rfl; rfl; exact M.r0; exact size25; (first | rfl | simp [hrl]); exact one64 _; intro w3 K hr3; replace M := Mem.callPut (L1 := []) M (Or.inr (by assumption)) K hr3; clear K hr3; simp only [List.cons_append, List.nil_append] at M)
  exact ret_ct Salg.results9 rfl M.r0 Salg.underlying25 rfl (by rw [size25]; simp [hrl]) rfl ⟨rfl, M.kept⟩

set_option maxHeartbeats 2000000 in
set_option maxRecDepth 100000 in
theorem wordAlu_none (o : Nat) (xs ys zs : List Nat) (w : World) (ho : isOp o = false) (ho2 : o < 256) :
    Calls Salg.prog 9 #[.int .u8 o, A64 xs, A64 ys, A64 zs] w fun e w' => e = .returned (.tuple #[A64 [0, 0, 0, 0], .bool false]) ∧ Kept [] w w' := by
  have M := Mem.start w []
  simp only [isOp, Bool.or_eq_false_iff, Bool.and_eq_false_iff, decide_eq_false_iff_not] at ho
  have d1 : ((o : Int) == 1) = false := by rw [beq_eq_false_iff_ne]; omega
  have d2 : ((o : Int) == 2) = false := by rw [beq_eq_false_iff_ne]; omega
  have d3 : ((o : Int) == 3) = false := by rw [beq_eq_false_iff_ne]; omega
  have d4 : ((o : Int) == 4) = false := by rw [beq_eq_false_iff_ne]; omega
  have d5 : ((o : Int) == 5) = false := by rw [beq_eq_false_iff_ne]; omega
  have d6 : ((o : Int) == 6) = false := by rw [beq_eq_false_iff_ne]; omega
  have d7 : ((o : Int) == 7) = false := by rw [beq_eq_false_iff_ne]; omega
  have d8 : ((o : Int) == 8) = false := by rw [beq_eq_false_iff_ne]; omega
  have d9 : ((o : Int) == 9) = false := by rw [beq_eq_false_iff_ne]; omega
  have d10 : ((o : Int) == 10) = false := by rw [beq_eq_false_iff_ne]; omega
  have d11 : ((o : Int) == 11) = false := by rw [beq_eq_false_iff_ne]; omega
  have d16 : ((o : Int) == 16) = false := by rw [beq_eq_false_iff_ne]; omega
  have d17 : ((o : Int) == 17) = false := by rw [beq_eq_false_iff_ne]; omega
  have d18 : ((o : Int) == 18) = false := by rw [beq_eq_false_iff_ne]; omega
  have d19 : ((o : Int) == 19) = false := by rw [beq_eq_false_iff_ne]; omega
  have d20 : ((o : Int) == 20) = false := by rw [beq_eq_false_iff_ne]; omega
  have d21 : ((o : Int) == 21) = false := by rw [beq_eq_false_iff_ne]; omega
  have d22 : ((o : Int) == 22) = false := by rw [beq_eq_false_iff_ne]; omega
  have d23 : ((o : Int) == 23) = false := by rw [beq_eq_false_iff_ne]; omega
  have d24 : ((o : Int) == 24) = false := by rw [beq_eq_false_iff_ne]; omega
  have d25 : ((o : Int) == 25) = false := by rw [beq_eq_false_iff_ne]; omega
  have d26 : ((o : Int) == 26) = false := by rw [beq_eq_false_iff_ne]; omega
  have d27 : ((o : Int) == 27) = false := by rw [beq_eq_false_iff_ne]; omega
  have d28 : ((o : Int) == 28) = false := by rw [beq_eq_false_iff_ne]; omega
  have d29 : ((o : Int) == 29) = false := by rw [beq_eq_false_iff_ne]; omega
  clear ho
  go_enter Salg.func9, Salg.ntmps9
  go_wp2_with (first
    | ((with_reducible apply L_box (d := 5) M); rfl; clear M; intro c1 w1 hc1 M; simp only [Act.put, List.setIfInBounds_toArray, List.set_cons_zero, List.set_cons_succ])
    | ((with_reducible apply L_box (d := 6) M); rfl; clear M; intro c2 w1 hc2 M; simp only [Act.put, List.setIfInBounds_toArray, List.set_cons_zero, List.set_cons_succ])
    | ((with_reducible apply L_box (d := 7) M); rfl; clear M; intro c3 w1 hc3 M; simp only [Act.put, List.setIfInBounds_toArray, List.set_cons_zero, List.set_cons_succ])
    | ((with_reducible apply L_allocA (d := 8) M); exact zero25; clear M; intro c4 w1 hc4 M; simp only [Act.put, List.setIfInBounds_toArray, List.set_cons_zero, List.set_cons_succ])
    | ((with_reducible apply W_storeK (b := c4) (vs := (([0, 0, 0, 0] : List Nat).map n64).toArray)); rfl; rfl; exact M.r0; exact size25; (first | rfl | simp []); exact one64 _; intro w3 K hr3; replace M := Mem.callPut (L1 := []) M (Or.inr (by assumption)) K hr3; clear K hr3; simp only [List.cons_append, List.nil_append] at M))
  exact ret_ct Salg.results9 rfl M.r0 Salg.underlying25 rfl size25 rfl ⟨rfl, M.kept⟩
end Go.Proofs.YgcsalGreat

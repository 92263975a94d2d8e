/-
  The walks of u256: Slt, Sgt, SDiv, SMod, MulMod.
-/
import Derived.Test.YgcsalGreatAlu3
import Derived.Test.YgcsalGreatLate
set_option linter.unusedSimpArgs false
namespace Go.Own
/-- A word's sign, and its magnitude. -/
def neg (X : Nat) : Bool := decide (2 ^ 255 ≤ X)
def sgn (t : Bool) (X : Nat) : Nat := if t then 18446744073709551616 ^ 4 - X else X
def slt (X Y : Nat) : Bool := if neg X != neg Y then neg X else decide (X < Y)
end Go.Own
namespace Go.Proofs.YgcsalGreat
open Go.RowKit Go.Own

set_option maxHeartbeats 2000000 in
set_option maxRecDepth 100000 in
theorem wSlt (xs ys : List Nat) (w : World) (hx : xs.length = 4) (hy : ys.length = 4) (hLx : Limbs xs) (hLy : Limbs ys) :
    Calls Salg.prog 52 #[A64 xs, A64 ys] w fun e w' => e = .returned (.bool (slt (lval xs) (lval ys))) ∧ Kept [] w w' := by
  have M := Mem.start w []
  have HNX := hid (fun w => wNegative xs w hx hLx)
  have HNY := hid (fun w => wNegative ys w hy hLy)
  have HLT := hid (fun w => wLt xs ys w hx hy hLx hLy)
  change Hid (∀ w, Calls Salg.prog 133 #[A64 xs] w fun e w' => e = .returned (.bool (neg (lval xs))) ∧ Kept [] w w') at HNX
  change Hid (∀ w, Calls Salg.prog 133 #[A64 ys] w fun e w' => e = .returned (.bool (neg (lval ys))) ∧ Kept [] w w') at HNY
  unfold slt
  generalize neg (lval xs) = nx at *
  generalize neg (lval ys) = ny at *
  generalize decide (lval xs < lval ys) = lt at *
  clear hLx hLy
  by_cases hn : nx = ny
  · subst hn
    have dn : (nx != nx) = false := by simp
    have d2 : (nx == nx) = true := by simp
    simp only [dn, Bool.false_eq_true, if_false]
    go_enter Salg.func52, Salg.ntmps52
    go_wp2_with (first
      | ((with_reducible apply L_box (d := 2) M); rfl; clear M; intro c1 w1 hc1 M; simp only [Act.put, List.setIfInBounds_toArray, List.set_cons_zero, List.set_cons_succ])
      | ((with_reducible apply L_box (d := 3) M); rfl; clear M; intro c2 w1 hc2 M; simp only [Act.put, List.setIfInBounds_toArray, List.set_cons_zero, List.set_cons_succ]))
    refine S_region (by kernel_rfl) ?_
    refine V_quiet 0 5 (by kernel_rfl) (by decide) M.drew ?_
    clear M
    simp only [List.take_succ_cons, List.take_zero, List.drop_zero, List.drop_succ_cons, Nat.sub_zero, Nat.reduceSub]
    ((with_reducible apply V_run); rfl; (intro w M; exact run_loadAll (by (first | with_reducible exact M.r0 | with_reducible exact M.r1 | with_reducible exact M.r2 | with_reducible exact M.r3 | with_reducible exact M.r4 | with_reducible exact M.r5 | with_reducible exact M.r6 | assumption | exact M.kept.row (by assumption) (by simp))) rfl Salg.underlying25 rfl (by first | with_reducible exact size25 | (rw [size25]; simp [hx]))); simp only [Act.put, List.setIfInBounds_toArray, List.set_cons_zero, List.set_cons_succ])
    refine V_call rfl Salg.func133 (by kernel_rfl) (by kernel_rfl) (args := [A64 xs]) rfl (fun w M => HNX.out w) ?_
    simp only [Act.put, List.setIfInBounds_toArray, List.set_cons_zero, List.set_cons_succ]
    ((with_reducible apply V_run); rfl; (intro w M; exact run_loadAll (by (first | with_reducible exact M.r0 | with_reducible exact M.r1 | with_reducible exact M.r2 | with_reducible exact M.r3 | with_reducible exact M.r4 | with_reducible exact M.r5 | with_reducible exact M.r6 | assumption | exact M.kept.row (by assumption) (by simp))) rfl Salg.underlying25 rfl (by first | with_reducible exact size25 | (rw [size25]; simp [hy]))); simp only [Act.put, List.setIfInBounds_toArray, List.set_cons_zero, List.set_cons_succ])
    refine V_call rfl Salg.func133 (by kernel_rfl) (by kernel_rfl) (args := [A64 ys]) rfl (fun w M => HNY.out w) ?_
    simp only [Act.put, List.setIfInBounds_toArray, List.set_cons_zero, List.set_cons_succ]
    ((with_reducible apply V_run); rfl; (intro w M; go_simp; (try go_ints); (try simp only [↓IntWalk.iteOmega]); (try with_reducible rfl)); simp only [Act.put, List.setIfInBounds_toArray, List.set_cons_zero, List.set_cons_succ])
    refine V_nil ?_
    intro w4 M
    refine S_done ?_
    (try simp only [dn, d2, Bool.not_false, Bool.not_true])
    go_wp2_with ((with_reducible apply W_loadAll); rfl; (first | with_reducible exact M.r0 | with_reducible exact M.r1 | with_reducible exact M.r2 | with_reducible exact M.r3 | with_reducible exact M.r4 | with_reducible exact M.r5 | with_reducible exact M.r6 | assumption | exact M.kept.row (by assumption) (by simp)); exact Salg.underlying25; rfl; (first | with_reducible exact size25 | (rw [size25]; simp [hx, hy])); simp only [Act.put, List.setIfInBounds_toArray, List.set_cons_zero, List.set_cons_succ])
    refine (HLT.out _).mono ?_
    rintro e w5 ⟨rfl, K⟩
    replace M := M.call K
    clear K
    go_wp2_with fail
    go_ret
    exact ⟨rfl, M.kept⟩
  · have dn : (nx != ny) = true := by simpa using hn
    have d2 : (nx == ny) = false := by simpa using hn
    simp only [dn, if_true]
    go_enter Salg.func52, Salg.ntmps52
    go_wp2_with (first
      | ((with_reducible apply L_box (d := 2) M); rfl; clear M; intro c1 w1 hc1 M; simp only [Act.put, List.setIfInBounds_toArray, List.set_cons_zero, List.set_cons_succ])
      | ((with_reducible apply L_box (d := 3) M); rfl; clear M; intro c2 w1 hc2 M; simp only [Act.put, List.setIfInBounds_toArray, List.set_cons_zero, List.set_cons_succ]))
    refine S_region (by kernel_rfl) ?_
    refine V_quiet 0 5 (by kernel_rfl) (by decide) M.drew ?_
    clear M
    simp only [List.take_succ_cons, List.take_zero, List.drop_zero, List.drop_succ_cons, Nat.sub_zero, Nat.reduceSub]
    ((with_reducible apply V_run); rfl; (intro w M; exact run_loadAll (by (first | with_reducible exact M.r0 | with_reducible exact M.r1 | with_reducible exact M.r2 | with_reducible exact M.r3 | with_reducible exact M.r4 | with_reducible exact M.r5 | with_reducible exact M.r6 | assumption | exact M.kept.row (by assumption) (by simp))) rfl Salg.underlying25 rfl (by first | with_reducible exact size25 | (rw [size25]; simp [hx]))); simp only [Act.put, List.setIfInBounds_toArray, List.set_cons_zero, List.set_cons_succ])
    refine V_call rfl Salg.func133 (by kernel_rfl) (by kernel_rfl) (args := [A64 xs]) rfl (fun w M => HNX.out w) ?_
    simp only [Act.put, List.setIfInBounds_toArray, List.set_cons_zero, List.set_cons_succ]
    ((with_reducible apply V_run); rfl; (intro w M; exact run_loadAll (by (first | with_reducible exact M.r0 | with_reducible exact M.r1 | with_reducible exact M.r2 | with_reducible exact M.r3 | with_reducible exact M.r4 | with_reducible exact M.r5 | with_reducible exact M.r6 | assumption | exact M.kept.row (by assumption) (by simp))) rfl Salg.underlying25 rfl (by first | with_reducible exact size25 | (rw [size25]; simp [hy]))); simp only [Act.put, List.setIfInBounds_toArray, List.set_cons_zero, List.set_cons_succ])
    refine V_call rfl Salg.func133 (by kernel_rfl) (by kernel_rfl) (args := [A64 ys]) rfl (fun w M => HNY.out w) ?_
    simp only [Act.put, List.setIfInBounds_toArray, List.set_cons_zero, List.set_cons_succ]
    ((with_reducible apply V_run); rfl; (intro w M; go_simp; (try go_ints); (try simp only [↓IntWalk.iteOmega]); (try with_reducible rfl)); simp only [Act.put, List.setIfInBounds_toArray, List.set_cons_zero, List.set_cons_succ])
    refine V_nil ?_
    intro w4 M
    refine S_done ?_
    (try simp only [dn, d2, Bool.not_false, Bool.not_true])
    go_wp2_with ((with_reducible apply W_loadAll); rfl; (first | with_reducible exact M.r0 | with_reducible exact M.r1 | with_reducible exact M.r2 | with_reducible exact M.r3 | with_reducible exact M.r4 | with_reducible exact M.r5 | with_reducible exact M.r6 | assumption | exact M.kept.row (by assumption) (by simp)); exact Salg.underlying25; rfl; (first | with_reducible exact size25 | (rw [size25]; simp [hx, hy])); simp only [Act.put, List.setIfInBounds_toArray, List.set_cons_zero, List.set_cons_succ])
    refine (HNX.out _).mono ?_
    rintro e w5 ⟨rfl, K⟩
    replace M := M.call K
    clear K
    go_wp2_with fail
    go_ret
    exact ⟨rfl, M.kept⟩

set_option maxHeartbeats 2000000 in
set_option maxRecDepth 100000 in
theorem wSgt (xs ys : List Nat) (w : World) (hx : xs.length = 4) (hy : ys.length = 4) (hLx : Limbs xs) (hLy : Limbs ys) :
    Calls Salg.prog 53 #[A64 xs, A64 ys] w fun e w' => e = .returned (.bool (slt (lval ys) (lval xs))) ∧ Kept [] w w' := by
  have M := Mem.start w []
  have HC := hid (fun w => wSlt ys xs w hy hx hLy hLx)
  generalize slt (lval ys) (lval xs) = fl at *
  clear hLx hLy
  go_enter Salg.func53, Salg.ntmps53
  go_wp2_with (first
    | ((with_reducible apply L_box (d := 2) M); rfl; clear M; intro c1 w1 hc1 M; simp only [Act.put, List.setIfInBounds_toArray, List.set_cons_zero, List.set_cons_succ])
    | ((with_reducible apply L_box (d := 3) M); rfl; clear M; intro c2 w1 hc2 M; simp only [Act.put, List.setIfInBounds_toArray, List.set_cons_zero, List.set_cons_succ])
    | ((with_reducible apply W_loadAll); rfl; (first | with_reducible exact M.r0 | with_reducible exact M.r1 | with_reducible exact M.r2 | with_reducible exact M.r3 | with_reducible exact M.r4 | with_reducible exact M.r5 | with_reducible exact M.r6 | assumption | exact M.kept.row (by assumption) (by simp)); exact Salg.underlying25; rfl; (first | with_reducible exact size25 | (rw [size25]; simp [hx, hy])); simp only [Act.put, List.setIfInBounds_toArray, List.set_cons_zero, List.set_cons_succ]))
  refine (HC.out _).mono ?_
  rintro e w2 ⟨rfl, K⟩
  replace M := M.call K
  clear K HC
  go_wp2_with fail
  go_ret
  exact ⟨rfl, M.kept⟩

theorem sgn_lt {l : List Nat} (hL : Limbs l) (hl : l.length = 4) : sgn (neg (lval l)) (lval l) < 18446744073709551616 ^ 4 := by
  have h := lval_lt hL
  rw [hl] at h
  unfold sgn neg
  by_cases hn : 2 ^ 255 ≤ lval l
  · simp only [hn, decide_true, if_true]
    have : 0 < (2 : Nat) ^ 255 := Nat.pow_pos (by decide)
    omega
  · simp only [hn, decide_false, Bool.false_eq_true, if_false]; exact h
theorem sgn_lval {l : List Nat} (hL : Limbs l) (hl : l.length = 4) : lval (nl 4 (sgn (neg (lval l)) (lval l))) = sgn (neg (lval l)) (lval l) := by
  rw [nl_lval, Nat.mod_eq_of_lt (sgn_lt hL hl)]
theorem quo_lval {A C : Nat} (h : A < 18446744073709551616 ^ 4) : lval (nl 4 (A / C)) = A / C := by
  rw [nl_lval, Nat.mod_eq_of_lt (Nat.lt_of_le_of_lt (Nat.div_le_self _ _) h)]
theorem rem_lval {A C : Nat} (h : A < 18446744073709551616 ^ 4) : lval (nl 4 (remN A C)) = remN A C := by
  rw [nl_lval, Nat.mod_eq_of_lt]
  unfold remN
  split
  · decide
  · exact Nat.lt_of_le_of_lt (Nat.mod_le _ _) h

set_option maxHeartbeats 2000000 in
set_option maxRecDepth 100000 in
theorem wSDiv (xs ys : List Nat) (w : World) (hx : xs.length = 4) (hy : ys.length = 4) (hLx : Limbs xs) (hLy : Limbs ys) :
    Calls Salg.prog 42 #[A64 xs, A64 ys] w fun e w' => e = .returned (A64 (nl 4 (sgn (neg (lval xs) != neg (lval ys)) (sgn (neg (lval xs)) (lval xs) / sgn (neg (lval ys)) (lval ys))))) ∧ Kept [] w w' := by
  have M := Mem.start w []
  have HNX := hid (fun w => wNegative xs w hx hLx)
  have HNY := hid (fun w => wNegative ys w hy hLy)
  change Hid (∀ w, Calls Salg.prog 133 #[A64 xs] w fun e w' => e = .returned (.bool (neg (lval xs))) ∧ Kept [] w w') at HNX
  change Hid (∀ w, Calls Salg.prog 133 #[A64 ys] w fun e w' => e = .returned (.bool (neg (lval ys))) ∧ Kept [] w w') at HNY
  have HSX := hid (fun w => wSigned xs (neg (lval xs)) w hx hLx)
  have HSY := hid (fun w => wSigned ys (neg (lval ys)) w hy hLy)
  change Hid (∀ w, Calls Salg.prog 132 #[A64 xs, .bool (neg (lval xs))] w fun e w' => e = .returned (A64 (nl 4 (sgn (neg (lval xs)) (lval xs)))) ∧ Kept [] w w') at HSX
  change Hid (∀ w, Calls Salg.prog 132 #[A64 ys, .bool (neg (lval ys))] w fun e w' => e = .returned (A64 (nl 4 (sgn (neg (lval ys)) (lval ys)))) ∧ Kept [] w w') at HSY
  have hvx : lval (nl 4 (sgn (neg (lval xs)) (lval xs))) = sgn (neg (lval xs)) (lval xs) := sgn_lval hLx hx
  have hvy : lval (nl 4 (sgn (neg (lval ys)) (lval ys))) = sgn (neg (lval ys)) (lval ys) := sgn_lval hLy hy
  have HQ := hid (fun w => wDiv (nl 4 (sgn (neg (lval xs)) (lval xs))) (nl 4 (sgn (neg (lval ys)) (lval ys))) w (nl_length _ _) (nl_length _ _) (nl_limbs _ _) (nl_limbs _ _))
  rw [hvx, hvy] at HQ
  have hlx := nl_length 4 (sgn (neg (lval xs)) (lval xs))
  have hly := nl_length 4 (sgn (neg (lval ys)) (lval ys))
  have hql := nl_length 4 (sgn (neg (lval xs)) (lval xs) / sgn (neg (lval ys)) (lval ys))
  have hqv : lval (nl 4 (sgn (neg (lval xs)) (lval xs) / sgn (neg (lval ys)) (lval ys))) = sgn (neg (lval xs)) (lval xs) / sgn (neg (lval ys)) (lval ys) := quo_lval (sgn_lt hLx hx)
  have HR := hid (fun w => wSigned (nl 4 (sgn (neg (lval xs)) (lval xs) / sgn (neg (lval ys)) (lval ys))) (neg (lval xs) != neg (lval ys)) w hql (nl_limbs _ _))
  rw [hqv] at HR
  change Hid (∀ w, Calls Salg.prog 132 _ w fun e w' => e = .returned (A64 (nl 4 (sgn (neg (lval xs) != neg (lval ys)) (sgn (neg (lval xs)) (lval xs) / sgn (neg (lval ys)) (lval ys))))) ∧ Kept [] w w') at HR
  have hrl := nl_length 4 (sgn (neg (lval xs) != neg (lval ys)) (sgn (neg (lval xs)) (lval xs) / sgn (neg (lval ys)) (lval ys)))
  generalize nl 4 (sgn (neg (lval xs) != neg (lval ys)) (sgn (neg (lval xs)) (lval xs) / sgn (neg (lval ys)) (lval ys))) = r4 at *
  generalize nl 4 (sgn (neg (lval xs)) (lval xs) / sgn (neg (lval ys)) (lval ys)) = q4 at *
  generalize nl 4 (sgn (neg (lval xs)) (lval xs)) = mx at *
  generalize nl 4 (sgn (neg (lval ys)) (lval ys)) = my at *
  generalize neg (lval xs) = nx at *
  generalize neg (lval ys) = ny at *
  clear hLx hLy hvx hvy hqv
  go_enter Salg.func42, Salg.ntmps42
  go_wp2_with (first
    | ((with_reducible apply L_box (d := 2) M); rfl; clear M; intro c1 w1 hc1 M; simp only [Act.put, List.setIfInBounds_toArray, List.set_cons_zero, List.set_cons_succ])
    | ((with_reducible apply L_box (d := 3) M); rfl; clear M; intro c2 w1 hc2 M; simp only [Act.put, List.setIfInBounds_toArray, List.set_cons_zero, List.set_cons_succ])
    | ((with_reducible apply L_allocA (d := 4) M); exact zero25; clear M; intro c3 w1 hc3 M; simp only [Act.put, List.setIfInBounds_toArray, List.set_cons_zero, List.set_cons_succ]))
  refine S_region (by kernel_rfl) ?_
  refine V_stage 0 9 10 (fun i => R64 25 (List.replicate 4 0)) (by kernel_rfl) (by decide) (by decide)
    (by intro i h1 h2; obtain rfl : i = 9 := by omega
        exact ⟨5, 25, _, _, _, _, rfl, zero25, rfl⟩) M.drew ?_
  clear M
  simp only [List.take_succ_cons, List.take_zero, List.drop_zero, List.drop_succ_cons, Nat.sub_zero, Nat.reduceSub]
  ((with_reducible apply V_run); rfl; (intro w M; exact run_loadAll (by (first | with_reducible exact M.r0 | with_reducible exact M.r1 | with_reducible exact M.r2 | with_reducible exact M.r3 | with_reducible exact M.r4 | with_reducible exact M.r5 | with_reducible exact M.r6 | assumption | exact M.kept.row (by assumption) (by simp))) rfl Salg.underlying25 rfl (by first | with_reducible exact size25 | (rw [size25]; simp [hx]))); simp only [Act.put, List.setIfInBounds_toArray, List.set_cons_zero, List.set_cons_succ])
  ((with_reducible apply V_run); rfl; (intro w M; exact run_loadAll (by (first | with_reducible exact M.r0 | with_reducible exact M.r1 | with_reducible exact M.r2 | with_reducible exact M.r3 | with_reducible exact M.r4 | with_reducible exact M.r5 | with_reducible exact M.r6 | assumption | exact M.kept.row (by assumption) (by simp))) rfl Salg.underlying25 rfl (by first | with_reducible exact size25 | (rw [size25]; simp [hx]))); simp only [Act.put, List.setIfInBounds_toArray, List.set_cons_zero, List.set_cons_succ])
  refine V_call rfl Salg.func133 (by kernel_rfl) (by kernel_rfl) (args := [A64 xs]) rfl (fun w M => HNX.out w) ?_
  simp only [Act.put, List.setIfInBounds_toArray, List.set_cons_zero, List.set_cons_succ]
  refine V_call rfl Salg.func132 (by kernel_rfl) (by kernel_rfl) (args := [A64 xs, .bool nx]) rfl (fun w M => HSX.out w) ?_
  simp only [Act.put, List.setIfInBounds_toArray, List.set_cons_zero, List.set_cons_succ]
  ((with_reducible apply V_run); rfl; (intro w M; exact run_loadAll (by (first | with_reducible exact M.r0 | with_reducible exact M.r1 | with_reducible exact M.r2 | with_reducible exact M.r3 | with_reducible exact M.r4 | with_reducible exact M.r5 | with_reducible exact M.r6 | assumption | exact M.kept.row (by assumption) (by simp))) rfl Salg.underlying25 rfl (by first | with_reducible exact size25 | (rw [size25]; simp [hy]))); simp only [Act.put, List.setIfInBounds_toArray, List.set_cons_zero, List.set_cons_succ])
  ((with_reducible apply V_run); rfl; (intro w M; exact run_loadAll (by (first | with_reducible exact M.r0 | with_reducible exact M.r1 | with_reducible exact M.r2 | with_reducible exact M.r3 | with_reducible exact M.r4 | with_reducible exact M.r5 | with_reducible exact M.r6 | assumption | exact M.kept.row (by assumption) (by simp))) rfl Salg.underlying25 rfl (by first | with_reducible exact size25 | (rw [size25]; simp [hy]))); simp only [Act.put, List.setIfInBounds_toArray, List.set_cons_zero, List.set_cons_succ])
  refine V_call rfl Salg.func133 (by kernel_rfl) (by kernel_rfl) (args := [A64 ys]) rfl (fun w M => HNY.out w) ?_
  simp only [Act.put, List.setIfInBounds_toArray, List.set_cons_zero, List.set_cons_succ]
  refine V_call rfl Salg.func132 (by kernel_rfl) (by kernel_rfl) (args := [A64 ys, .bool ny]) rfl (fun w M => HSY.out w) ?_
  simp only [Act.put, List.setIfInBounds_toArray, List.set_cons_zero, List.set_cons_succ]
  refine V_call rfl Salg.func41 (by kernel_rfl) (by kernel_rfl) (args := [A64 mx, A64 my]) rfl (fun w M => HQ.out w) ?_
  simp only [Act.put, List.setIfInBounds_toArray, List.set_cons_zero, List.set_cons_succ]
  refine V_nil ?_
  intro bl w6 hbl M
  have hc4 := hbl 9 (by decide) (by decide)
  simp only [Nat.reduceSub, List.range', newRows, List.map_cons, List.map_nil, List.reverse_cons, List.reverse_nil, List.nil_append, List.cons_append, Nat.reduceAdd] at M
  simp only [Nat.reduceSub, List.range', puts, if_true, dstOf, Nat.reduceAdd, List.getElem?_cons_succ, List.getElem?_cons_zero, Option.bind_some]
  simp only [Act.put, List.setIfInBounds_toArray, List.set_cons_zero, List.set_cons_succ]
  generalize bl 9 = c4 at *
  clear hbl
  refine S_seg 10 11 (by kernel_rfl) (by decide) ?_
  simp only [List.take_succ_cons, List.take_zero, List.drop_zero, List.drop_succ_cons, Nat.sub_zero, Nat.reduceSub]
  go_wp2_with ((with_reducible apply W_storeK (b := c4)); rfl; rfl; exact M.r0; (first | exact size25 | exact size178); (first | rfl | simp [hql]); (first | exact one64 _ | exact one8 _); intro w3 K hr3; replace M := Mem.callPut (L1 := []) M (Or.inr (by assumption)) K hr3; clear K hr3; simp only [List.cons_append, List.nil_append] at M)
  refine S_done ?_
  go_wp2_with fail
  refine S_region (by kernel_rfl) ?_
  refine V_quiet 0 7 (by kernel_rfl) (by decide) M.drew ?_
  clear M
  simp only [List.take_succ_cons, List.take_zero, List.drop_zero, List.drop_succ_cons, Nat.sub_zero, Nat.reduceSub]
  ((with_reducible apply V_run); rfl; (intro w M; exact run_loadAll (by (first | with_reducible exact M.r0 | with_reducible exact M.r1 | with_reducible exact M.r2 | with_reducible exact M.r3 | with_reducible exact M.r4 | with_reducible exact M.r5 | with_reducible exact M.r6 | assumption | exact M.kept.row (by assumption) (by simp))) rfl Salg.underlying25 rfl (by first | with_reducible exact size25 | (rw [size25]; simp [hql]))); simp only [Act.put, List.setIfInBounds_toArray, List.set_cons_zero, List.set_cons_succ])
  ((with_reducible apply V_run); rfl; (intro w M; exact run_loadAll (by (first | with_reducible exact M.r0 | with_reducible exact M.r1 | with_reducible exact M.r2 | with_reducible exact M.r3 | with_reducible exact M.r4 | with_reducible exact M.r5 | with_reducible exact M.r6 | assumption | exact M.kept.row (by assumption) (by simp))) rfl Salg.underlying25 rfl (by first | with_reducible exact size25 | (rw [size25]; simp [hx]))); simp only [Act.put, List.setIfInBounds_toArray, List.set_cons_zero, List.set_cons_succ])
  refine V_call rfl Salg.func133 (by kernel_rfl) (by kernel_rfl) (args := [A64 xs]) rfl (fun w M => HNX.out w) ?_
  simp only [Act.put, List.setIfInBounds_toArray, List.set_cons_zero, List.set_cons_succ]
  ((with_reducible apply V_run); rfl; (intro w M; exact run_loadAll (by (first | with_reducible exact M.r0 | with_reducible exact M.r1 | with_reducible exact M.r2 | with_reducible exact M.r3 | with_reducible exact M.r4 | with_reducible exact M.r5 | with_reducible exact M.r6 | assumption | exact M.kept.row (by assumption) (by simp))) rfl Salg.underlying25 rfl (by first | with_reducible exact size25 | (rw [size25]; simp [hy]))); simp only [Act.put, List.setIfInBounds_toArray, List.set_cons_zero, List.set_cons_succ])
  refine V_call rfl Salg.func133 (by kernel_rfl) (by kernel_rfl) (args := [A64 ys]) rfl (fun w M => HNY.out w) ?_
  simp only [Act.put, List.setIfInBounds_toArray, List.set_cons_zero, List.set_cons_succ]
  ((with_reducible apply V_run); rfl; (intro w M; go_simp; (try go_ints); (try simp only [↓IntWalk.iteOmega]); (try with_reducible rfl)); simp only [Act.put, List.setIfInBounds_toArray, List.set_cons_zero, List.set_cons_succ])
  refine V_call rfl Salg.func132 (by kernel_rfl) (by kernel_rfl) (args := [A64 q4, .bool (nx != ny)]) rfl (fun w M => HR.out w) ?_
  simp only [Act.put, List.setIfInBounds_toArray, List.set_cons_zero, List.set_cons_succ]
  refine V_nil ?_
  intro w7 M
  refine S_seg 7 8 (by kernel_rfl) (by decide) ?_
  simp only [List.take_succ_cons, List.take_zero, List.drop_zero, List.drop_succ_cons, Nat.sub_zero, Nat.reduceSub]
  go_wp2_with ((with_reducible apply W_storeK (b := c3)); rfl; rfl; exact M.r1; (first | exact size25 | exact size178); (first | rfl | simp [hrl]); (first | exact one64 _ | exact one8 _); intro w3 K hr3; replace M := Mem.callPut (L1 := [_]) M (Or.inr (by assumption)) K hr3; clear K hr3; simp only [List.cons_append, List.nil_append] at M)
  refine S_done ?_
  go_wp2_with fail
  exact ret_cell1 Salg.results42 rfl M.r1 Salg.underlying25 rfl (by rw [size25]; simp [hrl]) rfl ⟨rfl, M.kept⟩

set_option maxHeartbeats 2000000 in
set_option maxRecDepth 100000 in
theorem wSMod (xs ys : List Nat) (w : World) (hx : xs.length = 4) (hy : ys.length = 4) (hLx : Limbs xs) (hLy : Limbs ys) :
    Calls Salg.prog 44 #[A64 xs, A64 ys] w fun e w' => e = .returned (A64 (nl 4 (sgn (neg (lval xs)) (remN (sgn (neg (lval xs)) (lval xs)) (sgn (neg (lval ys)) (lval ys)))))) ∧ Kept [] w w' := by
  have M := Mem.start w []
  have HNX := hid (fun w => wNegative xs w hx hLx)
  have HNY := hid (fun w => wNegative ys w hy hLy)
  change Hid (∀ w, Calls Salg.prog 133 #[A64 xs] w fun e w' => e = .returned (.bool (neg (lval xs))) ∧ Kept [] w w') at HNX
  change Hid (∀ w, Calls Salg.prog 133 #[A64 ys] w fun e w' => e = .returned (.bool (neg (lval ys))) ∧ Kept [] w w') at HNY
  have HSX := hid (fun w => wSigned xs (neg (lval xs)) w hx hLx)
  have HSY := hid (fun w => wSigned ys (neg (lval ys)) w hy hLy)
  change Hid (∀ w, Calls Salg.prog 132 #[A64 xs, .bool (neg (lval xs))] w fun e w' => e = .returned (A64 (nl 4 (sgn (neg (lval xs)) (lval xs)))) ∧ Kept [] w w') at HSX
  change Hid (∀ w, Calls Salg.prog 132 #[A64 ys, .bool (neg (lval ys))] w fun e w' => e = .returned (A64 (nl 4 (sgn (neg (lval ys)) (lval ys)))) ∧ Kept [] w w') at HSY
  have hvx : lval (nl 4 (sgn (neg (lval xs)) (lval xs))) = sgn (neg (lval xs)) (lval xs) := sgn_lval hLx hx
  have hvy : lval (nl 4 (sgn (neg (lval ys)) (lval ys))) = sgn (neg (lval ys)) (lval ys) := sgn_lval hLy hy
  have HQ := hid (fun w => wMod (nl 4 (sgn (neg (lval xs)) (lval xs))) (nl 4 (sgn (neg (lval ys)) (lval ys))) w (nl_length _ _) (nl_length _ _) (nl_limbs _ _) (nl_limbs _ _))
  rw [hvx, hvy] at HQ
  have hlx := nl_length 4 (sgn (neg (lval xs)) (lval xs))
  have hly := nl_length 4 (sgn (neg (lval ys)) (lval ys))
  have hql := nl_length 4 (remN (sgn (neg (lval xs)) (lval xs)) (sgn (neg (lval ys)) (lval ys)))
  have hqv : lval (nl 4 (remN (sgn (neg (lval xs)) (lval xs)) (sgn (neg (lval ys)) (lval ys)))) = remN (sgn (neg (lval xs)) (lval xs)) (sgn (neg (lval ys)) (lval ys)) := rem_lval (sgn_lt hLx hx)
  have HR := hid (fun w => wSigned (nl 4 (remN (sgn (neg (lval xs)) (lval xs)) (sgn (neg (lval ys)) (lval ys)))) (neg (lval xs)) w hql (nl_limbs _ _))
  rw [hqv] at HR
  change Hid (∀ w, Calls Salg.prog 132 _ w fun e w' => e = .returned (A64 (nl 4 (sgn (neg (lval xs)) (remN (sgn (neg (lval xs)) (lval xs)) (sgn (neg (lval ys)) (lval ys)))))) ∧ Kept [] w w') at HR
  have hrl := nl_length 4 (sgn (neg (lval xs)) (remN (sgn (neg (lval xs)) (lval xs)) (sgn (neg (lval ys)) (lval ys))))
  generalize nl 4 (sgn (neg (lval xs)) (remN (sgn (neg (lval xs)) (lval xs)) (sgn (neg (lval ys)) (lval ys)))) = r4 at *
  generalize nl 4 (remN (sgn (neg (lval xs)) (lval xs)) (sgn (neg (lval ys)) (lval ys))) = q4 at *
  generalize nl 4 (sgn (neg (lval xs)) (lval xs)) = mx at *
  generalize nl 4 (sgn (neg (lval ys)) (lval ys)) = my at *
  generalize neg (lval xs) = nx at *
  generalize neg (lval ys) = ny at *
  clear hLx hLy hvx hvy hqv
  go_enter Salg.func44, Salg.ntmps44
  go_wp2_with (first
    | ((with_reducible apply L_box (d := 2) M); rfl; clear M; intro c1 w1 hc1 M; simp only [Act.put, List.setIfInBounds_toArray, List.set_cons_zero, List.set_cons_succ])
    | ((with_reducible apply L_box (d := 3) M); rfl; clear M; intro c2 w1 hc2 M; simp only [Act.put, List.setIfInBounds_toArray, List.set_cons_zero, List.set_cons_succ])
    | ((with_reducible apply L_allocA (d := 4) M); exact zero25; clear M; intro c3 w1 hc3 M; simp only [Act.put, List.setIfInBounds_toArray, List.set_cons_zero, List.set_cons_succ]))
  refine S_region (by kernel_rfl) ?_
  refine V_stage 0 9 10 (fun i => R64 25 (List.replicate 4 0)) (by kernel_rfl) (by decide) (by decide)
    (by intro i h1 h2; obtain rfl : i = 9 := by omega
        exact ⟨5, 25, _, _, _, _, rfl, zero25, rfl⟩) M.drew ?_
  clear M
  simp only [List.take_succ_cons, List.take_zero, List.drop_zero, List.drop_succ_cons, Nat.sub_zero, Nat.reduceSub]
  ((with_reducible apply V_run); rfl; (intro w M; exact run_loadAll (by (first | with_reducible exact M.r0 | with_reducible exact M.r1 | with_reducible exact M.r2 | with_reducible exact M.r3 | with_reducible exact M.r4 | with_reducible exact M.r5 | with_reducible exact M.r6 | assumption | exact M.kept.row (by assumption) (by simp))) rfl Salg.underlying25 rfl (by first | with_reducible exact size25 | (rw [size25]; simp [hx]))); simp only [Act.put, List.setIfInBounds_toArray, List.set_cons_zero, List.set_cons_succ])
  ((with_reducible apply V_run); rfl; (intro w M; exact run_loadAll (by (first | with_reducible exact M.r0 | with_reducible exact M.r1 | with_reducible exact M.r2 | with_reducible exact M.r3 | with_reducible exact M.r4 | with_reducible exact M.r5 | with_reducible exact M.r6 | assumption | exact M.kept.row (by assumption) (by simp))) rfl Salg.underlying25 rfl (by first | with_reducible exact size25 | (rw [size25]; simp [hx]))); simp only [Act.put, List.setIfInBounds_toArray, List.set_cons_zero, List.set_cons_succ])
  refine V_call rfl Salg.func133 (by kernel_rfl) (by kernel_rfl) (args := [A64 xs]) rfl (fun w M => HNX.out w) ?_
  simp only [Act.put, List.setIfInBounds_toArray, List.set_cons_zero, List.set_cons_succ]
  refine V_call rfl Salg.func132 (by kernel_rfl) (by kernel_rfl) (args := [A64 xs, .bool nx]) rfl (fun w M => HSX.out w) ?_
  simp only [Act.put, List.setIfInBounds_toArray, List.set_cons_zero, List.set_cons_succ]
  ((with_reducible apply V_run); rfl; (intro w M; exact run_loadAll (by (first | with_reducible exact M.r0 | with_reducible exact M.r1 | with_reducible exact M.r2 | with_reducible exact M.r3 | with_reducible exact M.r4 | with_reducible exact M.r5 | with_reducible exact M.r6 | assumption | exact M.kept.row (by assumption) (by simp))) rfl Salg.underlying25 rfl (by first | with_reducible exact size25 | (rw [size25]; simp [hy]))); simp only [Act.put, List.setIfInBounds_toArray, List.set_cons_zero, List.set_cons_succ])
  ((with_reducible apply V_run); rfl; (intro w M; exact run_loadAll (by (first | with_reducible exact M.r0 | with_reducible exact M.r1 | with_reducible exact M.r2 | with_reducible exact M.r3 | with_reducible exact M.r4 | with_reducible exact M.r5 | with_reducible exact M.r6 | assumption | exact M.kept.row (by assumption) (by simp))) rfl Salg.underlying25 rfl (by first | with_reducible exact size25 | (rw [size25]; simp [hy]))); simp only [Act.put, List.setIfInBounds_toArray, List.set_cons_zero, List.set_cons_succ])
  refine V_call rfl Salg.func133 (by kernel_rfl) (by kernel_rfl) (args := [A64 ys]) rfl (fun w M => HNY.out w) ?_
  simp only [Act.put, List.setIfInBounds_toArray, List.set_cons_zero, List.set_cons_succ]
  refine V_call rfl Salg.func132 (by kernel_rfl) (by kernel_rfl) (args := [A64 ys, .bool ny]) rfl (fun w M => HSY.out w) ?_
  simp only [Act.put, List.setIfInBounds_toArray, List.set_cons_zero, List.set_cons_succ]
  refine V_call rfl Salg.func43 (by kernel_rfl) (by kernel_rfl) (args := [A64 mx, A64 my]) rfl (fun w M => HQ.out w) ?_
  simp only [Act.put, List.setIfInBounds_toArray, List.set_cons_zero, List.set_cons_succ]
  refine V_nil ?_
  intro bl w6 hbl M
  have hc4 := hbl 9 (by decide) (by decide)
  simp only [Nat.reduceSub, List.range', newRows, List.map_cons, List.map_nil, List.reverse_cons, List.reverse_nil, List.nil_append, List.cons_append, Nat.reduceAdd] at M
  simp only [Nat.reduceSub, List.range', puts, if_true, dstOf, Nat.reduceAdd, List.getElem?_cons_succ, List.getElem?_cons_zero, Option.bind_some]
  simp only [Act.put, List.setIfInBounds_toArray, List.set_cons_zero, List.set_cons_succ]
  generalize bl 9 = c4 at *
  clear hbl
  refine S_seg 10 11 (by kernel_rfl) (by decide) ?_
  simp only [List.take_succ_cons, List.take_zero, List.drop_zero, List.drop_succ_cons, Nat.sub_zero, Nat.reduceSub]
  go_wp2_with ((with_reducible apply W_storeK (b := c4)); rfl; rfl; exact M.r0; (first | exact size25 | exact size178); (first | rfl | simp [hql]); (first | exact one64 _ | exact one8 _); intro w3 K hr3; replace M := Mem.callPut (L1 := []) M (Or.inr (by assumption)) K hr3; clear K hr3; simp only [List.cons_append, List.nil_append] at M)
  refine S_done ?_
  go_wp2_with fail
  refine S_region (by kernel_rfl) ?_
  refine V_quiet 0 4 (by kernel_rfl) (by decide) M.drew ?_
  clear M
  simp only [List.take_succ_cons, List.take_zero, List.drop_zero, List.drop_succ_cons, Nat.sub_zero, Nat.reduceSub]
  ((with_reducible apply V_run); rfl; (intro w M; exact run_loadAll (by (first | with_reducible exact M.r0 | with_reducible exact M.r1 | with_reducible exact M.r2 | with_reducible exact M.r3 | with_reducible exact M.r4 | with_reducible exact M.r5 | with_reducible exact M.r6 | assumption | exact M.kept.row (by assumption) (by simp))) rfl Salg.underlying25 rfl (by first | with_reducible exact size25 | (rw [size25]; simp [hql]))); simp only [Act.put, List.setIfInBounds_toArray, List.set_cons_zero, List.set_cons_succ])
  ((with_reducible apply V_run); rfl; (intro w M; exact run_loadAll (by (first | with_reducible exact M.r0 | with_reducible exact M.r1 | with_reducible exact M.r2 | with_reducible exact M.r3 | with_reducible exact M.r4 | with_reducible exact M.r5 | with_reducible exact M.r6 | assumption | exact M.kept.row (by assumption) (by simp))) rfl Salg.underlying25 rfl (by first | with_reducible exact size25 | (rw [size25]; simp [hx]))); simp only [Act.put, List.setIfInBounds_toArray, List.set_cons_zero, List.set_cons_succ])
  refine V_call rfl Salg.func133 (by kernel_rfl) (by kernel_rfl) (args := [A64 xs]) rfl (fun w M => HNX.out w) ?_
  simp only [Act.put, List.setIfInBounds_toArray, List.set_cons_zero, List.set_cons_succ]
  refine V_call rfl Salg.func132 (by kernel_rfl) (by kernel_rfl) (args := [A64 q4, .bool nx]) rfl (fun w M => HR.out w) ?_
  simp only [Act.put, List.setIfInBounds_toArray, List.set_cons_zero, List.set_cons_succ]
  refine V_nil ?_
  intro w7 M
  refine S_seg 4 5 (by kernel_rfl) (by decide) ?_
  simp only [List.take_succ_cons, List.take_zero, List.drop_zero, List.drop_succ_cons, Nat.sub_zero, Nat.reduceSub]
  go_wp2_with ((with_reducible apply W_storeK (b := c3)); rfl; rfl; exact M.r1; (first | exact size25 | exact size178); (first | rfl | simp [hrl]); (first | exact one64 _ | exact one8 _); intro w3 K hr3; replace M := Mem.callPut (L1 := [_]) M (Or.inr (by assumption)) K hr3; clear K hr3; simp only [List.cons_append, List.nil_append] at M)
  refine S_done ?_
  go_wp2_with fail
  exact ret_cell1 Salg.results44 rfl M.r1 Salg.underlying25 rfl (by rw [size25]; simp [hrl]) rfl ⟨rfl, M.kept⟩

set_option maxHeartbeats 2000000 in
set_option maxRecDepth 100000 in
theorem wMulMod (xs ys ms : List Nat) (w : World) (hx : xs.length = 4) (hy : ys.length = 4) (hm : ms.length = 4) (hLx : Limbs xs) (hLy : Limbs ys) (hLm : Limbs ms) :
    Calls Salg.prog 46 #[A64 xs, A64 ys, A64 ms] w fun e w' => e = .returned (A64 (nl 4 (remN (lval xs * lval ys) (lval ms)))) ∧ Kept [] w w' := by
  have M := Mem.start w []
  have HMU := hid (fun w => mul512_any xs ys w hx hy hLx hLy)
  have hpv : lval (nl 8 (lval xs * lval ys)) = lval xs * lval ys := by
    rw [nl_lval, Nat.mod_eq_of_lt]
    have h1 := lval_lt hLx
    have h2 := lval_lt hLy
    rw [hx] at h1
    rw [hy] at h2
    exact Nat.lt_of_lt_of_le (Nat.mul_lt_mul'' h1 h2) (by decide)
  have HRE := hid (fun w => rem512_any (nl 8 (lval xs * lval ys)) ms w (nl_length _ _) hm (nl_limbs _ _) hLm)
  rw [hpv] at HRE
  have h8l := nl_length 8 (lval xs * lval ys)
  have hrl := nl_length 4 (remN (lval xs * lval ys) (lval ms))
  have hpl : (pathL (lval xs * lval ys) (lval ms)).length = 3 := rfl
  generalize nl 4 (remN (lval xs * lval ys) (lval ms)) = r4 at *
  generalize pathL (lval xs * lval ys) (lval ms) = p3 at *
  generalize nl 8 (lval xs * lval ys) = p8 at *
  clear hLx hLy hLm hpv
  go_enter Salg.func46, Salg.ntmps46
  go_wp2_with (first
    | ((with_reducible apply L_box (d := 3) M); rfl; clear M; intro c1 w1 hc1 M; simp only [Act.put, List.setIfInBounds_toArray, List.set_cons_zero, List.set_cons_succ])
    | ((with_reducible apply L_box (d := 4) M); rfl; clear M; intro c2 w1 hc2 M; simp only [Act.put, List.setIfInBounds_toArray, List.set_cons_zero, List.set_cons_succ])
    | ((with_reducible apply L_box (d := 5) M); rfl; clear M; intro c3 w1 hc3 M; simp only [Act.put, List.setIfInBounds_toArray, List.set_cons_zero, List.set_cons_succ])
    | ((with_reducible apply L_allocA (d := 6) M); exact zero25; clear M; intro c4 w1 hc4 M; simp only [Act.put, List.setIfInBounds_toArray, List.set_cons_zero, List.set_cons_succ]))
  refine S_region (by kernel_rfl) ?_
  refine S_nrml ?_
  refine S_late 7 (by kernel_rfl) ?_
  simp only [List.map_cons, List.map_nil, bind1]
  refine V_stage 0 8 10 (fun i => if i = 9 then R8 178 (List.replicate 3 0) else R64 25 (List.replicate 4 0)) (by kernel_rfl) (by decide) (by decide)
    (by intro i h1 h2; rcases (by omega : i = 8 ∨ i = 9) with rfl | rfl; exact ⟨7, 25, _, _, _, _, rfl, zero25, rfl⟩; exact ⟨8, 178, _, _, _, _, rfl, zero178, rfl⟩) M.drew ?_
  clear M
  simp only [List.take_succ_cons, List.take_zero, List.drop_zero, List.drop_succ_cons, Nat.sub_zero, Nat.reduceSub]
  ((with_reducible apply V_run); rfl; (intro w M; exact run_loadAll (by (first | with_reducible exact M.r0 | with_reducible exact M.r1 | with_reducible exact M.r2 | with_reducible exact M.r3 | with_reducible exact M.r4 | with_reducible exact M.r5 | with_reducible exact M.r6 | assumption | exact M.kept.row (by assumption) (by simp))) rfl Salg.underlying25 rfl (by first | with_reducible exact size25 | (rw [size25]; simp [hx]))); simp only [Act.put, List.setIfInBounds_toArray, List.set_cons_zero, List.set_cons_succ])
  ((with_reducible apply V_run); rfl; (intro w M; exact run_loadAll (by (first | with_reducible exact M.r0 | with_reducible exact M.r1 | with_reducible exact M.r2 | with_reducible exact M.r3 | with_reducible exact M.r4 | with_reducible exact M.r5 | with_reducible exact M.r6 | assumption | exact M.kept.row (by assumption) (by simp))) rfl Salg.underlying25 rfl (by first | with_reducible exact size25 | (rw [size25]; simp [hy]))); simp only [Act.put, List.setIfInBounds_toArray, List.set_cons_zero, List.set_cons_succ])
  refine V_call rfl Salg.func135 (by kernel_rfl) (by kernel_rfl) (args := [A64 xs, A64 ys]) rfl (fun w M => HMU.out w) ?_
  simp only [Act.put, List.setIfInBounds_toArray, List.set_cons_zero, List.set_cons_succ]
  ((with_reducible apply V_run); rfl; (intro w M; exact run_loadAll (by (first | with_reducible exact M.r0 | with_reducible exact M.r1 | with_reducible exact M.r2 | with_reducible exact M.r3 | with_reducible exact M.r4 | with_reducible exact M.r5 | with_reducible exact M.r6 | assumption | exact M.kept.row (by assumption) (by simp))) rfl Salg.underlying25 rfl (by first | with_reducible exact size25 | (rw [size25]; simp [hm]))); simp only [Act.put, List.setIfInBounds_toArray, List.set_cons_zero, List.set_cons_succ])
  refine V_call rfl Salg.func134 (by kernel_rfl) (by kernel_rfl) (args := [A64 p8, A64 ms]) rfl (fun w M => HRE.out w) ?_
  simp only [Act.put, List.setIfInBounds_toArray, List.set_cons_zero, List.set_cons_succ]
  ((with_reducible apply V_run); rfl; (intro w M; go_simp; (try go_ints); (try simp only [↓IntWalk.iteOmega]); (try with_reducible rfl)); simp only [Act.put, List.setIfInBounds_toArray, List.set_cons_zero, List.set_cons_succ])
  ((with_reducible apply V_run); rfl; (intro w M; go_simp; (try go_ints); (try simp only [↓IntWalk.iteOmega]); (try with_reducible rfl)); simp only [Act.put, List.setIfInBounds_toArray, List.set_cons_zero, List.set_cons_succ])
  ((with_reducible apply V_run); rfl; (intro w M; go_simp; (try go_ints); (try simp only [↓IntWalk.iteOmega]); (try with_reducible rfl)); simp only [Act.put, List.setIfInBounds_toArray, List.set_cons_zero, List.set_cons_succ])
  refine V_nil ?_
  intro bl w6 hbl M
  have hc5 := hbl 8 (by decide) (by decide)
  have hc6 := hbl 9 (by decide) (by decide)
  simp only [Nat.reduceSub, List.range', newRows, List.map_cons, List.map_nil, List.reverse_cons, List.reverse_nil, List.nil_append, List.cons_append, Nat.reduceAdd, Nat.reduceEqDiff, if_true, if_false] at M
  simp only [Nat.reduceSub, List.range', puts, if_true, dstOf, Nat.reduceAdd, List.getElem?_cons_succ, List.getElem?_cons_zero, Option.bind_some]
  simp only [Act.put, List.setIfInBounds_toArray, List.set_cons_zero, List.set_cons_succ]
  generalize bl 8 = c5 at *
  generalize bl 9 = c6 at *
  clear hbl
  refine S_seg 10 12 (by kernel_rfl) (by decide) ?_
  simp only [List.take_succ_cons, List.take_zero, List.drop_zero, List.drop_succ_cons, Nat.sub_zero, Nat.reduceSub]
  go_wp2_with (first
    | ((with_reducible apply W_storeK (b := c5)); rfl; rfl; exact M.r1; (first | exact size25 | exact size178); (first | rfl | simp [hrl]); (first | exact one64 _ | exact one8 _); intro w3 K hr3; replace M := Mem.callPut (L1 := [_]) M (Or.inr (by assumption)) K hr3; clear K hr3; simp only [List.cons_append, List.nil_append] at M)
    | ((with_reducible apply W_storeK (b := c6)); rfl; rfl; exact M.r0; (first | exact size25 | exact size178); (first | rfl | simp [hpl]); (first | exact one64 _ | exact one8 _); intro w3 K hr3; replace M := Mem.callPut (L1 := []) M (Or.inr (by assumption)) K hr3; clear K hr3; simp only [List.cons_append, List.nil_append] at M))
  refine S_done ?_
  refine ⟨rfl, ?_⟩
  go_wp2_with (first
    | ((with_reducible apply W_loadAll); rfl; (first | with_reducible exact M.r0 | with_reducible exact M.r1 | with_reducible exact M.r2 | with_reducible exact M.r3 | with_reducible exact M.r4 | with_reducible exact M.r5 | with_reducible exact M.r6 | assumption | exact M.kept.row (by assumption) (by simp)); exact Salg.underlying25; rfl; (first | with_reducible exact size25 | (rw [size25]; simp [hrl])); simp only [Act.put, List.setIfInBounds_toArray, List.set_cons_zero, List.set_cons_succ])
    | ((with_reducible apply W_storeK (b := c4)); rfl; rfl; exact M.r2; (first | exact size25 | exact size178); (first | rfl | simp [hrl]); (first | exact one64 _ | exact one8 _); intro w3 K hr3; replace M := Mem.callPut (L1 := [_, _]) M (Or.inr (by assumption)) K hr3; clear K hr3; simp only [List.cons_append, List.nil_append] at M))
  exact ret_cell1 Salg.results46 rfl M.r2 Salg.underlying25 rfl (by rw [size25]; simp [hrl]) rfl ⟨rfl, M.kept⟩
end Go.Proofs.YgcsalGreat

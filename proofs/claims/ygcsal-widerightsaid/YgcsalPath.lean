/-
  The walk of law.pathByRounds.
-/
import Derived.Test.YgcsalNatWord
import Derived.Test.YgcsalDivRem
set_option linter.unusedSimpArgs false
namespace Go.Proofs.Ygcsal
open Go.RowKit Go.Own

set_option maxHeartbeats 2000000 in
set_option maxRecDepth 100000 in
theorem path_none (p q : Option Addr) (dl dc el ec L n : Nat) (w : World) (h1 : dl ≤ 1000) (h2 : el ≤ 1000) (hL : ((dl : Int) + 7) / 8 = (L : Int)) (hn : ((el : Int) + 7) / 8 = (n : Int)) (hno : n = 0 ∨ L < n) :
    Calls Salg.prog 44 #[.slice p dl dc, .slice q el ec] w fun e w' => e = .returned (A8 [0, 0, 0]) ∧ Kept [] w w' := by
  have M := Mem.start w []
  by_cases h0 : n = 0
  · subst h0
    clear hno
    go_enter Salg.func44, Salg.ntmps44
    go_wp2_with (first
    | ((with_reducible apply L_allocA (d := 4) M); exact zero46; clear M; intro b1 w1 hb1 M; simp only [Act.put, List.setIfInBounds_toArray, List.set_cons_zero, List.set_cons_succ])
    | ((with_reducible apply L_allocA (d := 5) M); exact zero46; clear M; intro b2 w1 hb2 M; simp only [Act.put, List.setIfInBounds_toArray, List.set_cons_zero, List.set_cons_succ])
    | ((with_reducible apply W_loadAll); rfl; (first | with_reducible exact M.r0 | with_reducible exact M.r1 | with_reducible exact M.r2 | with_reducible exact M.r3 | with_reducible exact M.r4 | with_reducible exact M.r5 | with_reducible exact M.r6 | assumption | exact M.kept.row (by assumption) (by simp)); exact Salg.underlying46; rfl; (first | with_reducible exact size46 | (rw [size46]; simp [])); simp only [Act.put, List.setIfInBounds_toArray, List.set_cons_zero, List.set_cons_succ])
    | ((with_reducible apply W_storeK (b := b1)); rfl; rfl; exact M.r1; (first | exact size25 | exact size46 | exact size31); (first | rfl | simp [nl_length]); (first | exact one8 _ | exact one64 _); intro w3 K hr3; replace M := Mem.callPut (L1 := [_]) M (Or.inr (by assumption)) K hr3; clear K hr3; simp only [List.cons_append, List.nil_append] at M))
    exact ret_cell1 Salg.results44 rfl M.r1 Salg.underlying46 rfl size46 rfl ⟨rfl, M.kept⟩
  · have dn : ((n : Int) == 0) = false := by rw [beq_eq_false_iff_ne]; omega
    have dl1 : decide ((L : Int) < (n : Int)) = true := by simp; omega
    have dl2 : decide (L < n) = true := by simp; omega
    clear hno
    go_enter Salg.func44, Salg.ntmps44
    go_wp2_with (first
    | ((with_reducible apply L_allocA (d := 4) M); exact zero46; clear M; intro b1 w1 hb1 M; simp only [Act.put, List.setIfInBounds_toArray, List.set_cons_zero, List.set_cons_succ])
    | ((with_reducible apply L_allocA (d := 5) M); exact zero46; clear M; intro b2 w1 hb2 M; simp only [Act.put, List.setIfInBounds_toArray, List.set_cons_zero, List.set_cons_succ])
    | ((with_reducible apply W_loadAll); rfl; (first | with_reducible exact M.r0 | with_reducible exact M.r1 | with_reducible exact M.r2 | with_reducible exact M.r3 | with_reducible exact M.r4 | with_reducible exact M.r5 | with_reducible exact M.r6 | assumption | exact M.kept.row (by assumption) (by simp)); exact Salg.underlying46; rfl; (first | with_reducible exact size46 | (rw [size46]; simp [])); simp only [Act.put, List.setIfInBounds_toArray, List.set_cons_zero, List.set_cons_succ])
    | ((with_reducible apply W_storeK (b := b1)); rfl; rfl; exact M.r1; (first | exact size25 | exact size46 | exact size31); (first | rfl | simp [nl_length]); (first | exact one8 _ | exact one64 _); intro w3 K hr3; replace M := Mem.callPut (L1 := [_]) M (Or.inr (by assumption)) K hr3; clear K hr3; simp only [List.cons_append, List.nil_append] at M))
    exact ret_cell1 Salg.results44 rfl M.r1 Salg.underlying46 rfl size46 rfl ⟨rfl, M.kept⟩

set_option maxHeartbeats 2000000 in
set_option maxRecDepth 100000 in
theorem path_one (p q : Option Addr) (dl dc el ec L : Nat) (w : World) (h1 : dl ≤ 1000) (h2 : el ≤ 1000) (hL : ((dl : Int) + 7) / 8 = (L : Int)) (hn : ((el : Int) + 7) / 8 = ((1 : Nat) : Int)) (hL1 : 1 ≤ L) (hL8 : L ≤ 8) :
    Calls Salg.prog 44 #[.slice p dl dc, .slice q el ec] w fun e w' => e = .returned (A8 [L, 0, 0]) ∧ Kept [] w w' := by
  have M := Mem.start w []
  have dl1 : decide ((L : Int) < 1) = false := by simp; omega
  have dl2 : decide (L < 1) = false := by simp; omega
  go_enter Salg.func44, Salg.ntmps44
  go_wp2_with (first
    | ((with_reducible apply L_allocA (d := 4) M); exact zero46; clear M; intro b1 w1 hb1 M; simp only [Act.put, List.setIfInBounds_toArray, List.set_cons_zero, List.set_cons_succ])
    | ((with_reducible apply L_allocA (d := 5) M); exact zero46; clear M; intro b2 w1 hb2 M; simp only [Act.put, List.setIfInBounds_toArray, List.set_cons_zero, List.set_cons_succ])
    | ((with_reducible apply W_loadAll); rfl; (first | with_reducible exact M.r0 | with_reducible exact M.r1 | with_reducible exact M.r2 | with_reducible exact M.r3 | with_reducible exact M.r4 | with_reducible exact M.r5 | with_reducible exact M.r6 | assumption | exact M.kept.row (by assumption) (by simp)); exact Salg.underlying46; rfl; (first | with_reducible exact size46 | (rw [size46]; simp [])); simp only [Act.put, List.setIfInBounds_toArray, List.set_cons_zero, List.set_cons_succ])
    | ((with_reducible apply W_storeK (b := b1)); rfl; rfl; exact M.r1; (first | exact size25 | exact size46 | exact size31); (first | rfl | simp [nl_length]); (first | exact one8 _ | exact one64 _); intro w3 K hr3; replace M := Mem.callPut (L1 := [_]) M (Or.inr (by assumption)) K hr3; clear K hr3; simp only [List.cons_append, List.nil_append] at M)
    | ((with_reducible apply W_st8K (b := b2) (o := 0) (m := L)); rfl; rfl; (first | rfl | omega | go_num); exact M.r0; exact size5; (first | decide | simp); intro w3 K hr3; replace M := Mem.callPut (L1 := []) M (Or.inr (by assumption)) K hr3; clear K hr3; simp only [List.cons_append, List.nil_append, List.set_cons_succ, List.set_cons_zero] at M))
  exact ret_cell1 Salg.results44 rfl M.r1 Salg.underlying46 rfl size46 rfl ⟨rfl, M.kept⟩
end Go.Proofs.Ygcsal

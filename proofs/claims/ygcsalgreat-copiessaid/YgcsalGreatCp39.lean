/-
  law.echo and law.sourcePush.
-/
import Derived.Test.YgcsalGreatSl1
set_option linter.unusedSimpArgs false
set_option linter.unusedVariables false
namespace Go.Proofs.YgcsalGreat
open Go.RowKit Go.Own

set_option maxHeartbeats 4000000 in
set_option maxRecDepth 100000 in
theorem echo_any (w : World) : Calls Salg.prog 22 #[] w fun e w' => ∃ v, e = .returned v ∧ RowV w' 5 v ([54, 95, 95, 55, 54, 95, 243].map n8) ∧ Kept [] w w' := by
  have M := Mem.start w []
  go_enter Salg.func22, Salg.ntmps22
  go_wp2_with ((with_reducible apply W_buildN (vs := #[n8 54, n8 95, n8 95, n8 55, n8 54, n8 95, n8 243]) (e := 5) M); kernel_rfl; clear M; intro bn w2 hbn hbn2 KB M; clear KB hbn2; simp only [Act.put, List.setIfInBounds_toArray, List.set_cons_zero, List.set_cons_succ])
  go_ret
  exact ⟨_, rfl, RowV.own (own_lit (base := 0) M.r0 rfl (by decide) (Nat.zero_le _)), M.kept⟩

set_option maxHeartbeats 4000000 in
set_option maxRecDepth 100000 in
theorem sourcePush_near (s : Nat) (w : World) : Calls Salg.prog 103 #[n8 s, .bool false] w fun e w' => ∃ v, e = .returned v ∧ RowV w' 5 v ([96, s].map n8) ∧ Kept [] w w' := by
  have M := Mem.start w []
  go_enter Salg.func103, Salg.ntmps103
  go_wp2_with ((with_reducible apply W_buildN (vs := #[n8 96, n8 s]) (e := 5) M); kernel_rfl; clear M; intro bn w2 hbn hbn2 KB M; clear KB hbn2; simp only [Act.put, List.setIfInBounds_toArray, List.set_cons_zero, List.set_cons_succ])
  go_ret
  exact ⟨_, rfl, RowV.own (own_lit (base := 0) M.r0 rfl (by decide) (Nat.zero_le _)), M.kept⟩

set_option maxHeartbeats 4000000 in
set_option maxRecDepth 100000 in
theorem sourcePush_far (s : Nat) (w : World) : Calls Salg.prog 103 #[n8 s, .bool true] w fun e w' => ∃ v, e = .returned v ∧ RowV w' 5 v ((127 :: [0, 0, 0, 0, 0, 0, 1, 0, 0, 0, 0, 0, 0, 0, 0, 0, 0, 0, 0, 0, 0, 0, 0, 0, 0, 0, 0, 0, 0, 0, 0, s]).map n8) ∧ Kept [] w w' := by
  have M := Mem.start w []
  go_enter Salg.func103, Salg.ntmps103
  go_wp2_with (first
    | ((with_reducible apply L_allocA (d := 5) M); exact zero22; clear M; intro t5 w1 ht5 M; simp only [Act.put, List.setIfInBounds_toArray, List.set_cons_zero, List.set_cons_succ])
    | ((with_reducible apply W_stV (b := t5) (o := 6) (v := n8 1)); rfl; rfl; rfl; exact M.r0; exact size5; exact Nat.le_of_ble_eq_true (by kernel_rfl); intro w2 K hr3; replace M := Mem.callPut (L1 := []) M (Or.inr ht5) K hr3; clear K hr3; simp only [List.nil_append] at M)
    | ((with_reducible apply W_stV (b := t5) (o := 31) (v := n8 s)); rfl; rfl; rfl; exact M.r0; exact size5; exact Nat.le_of_ble_eq_true (by kernel_rfl); intro w2 K hr3; replace M := Mem.callPut (L1 := []) M (Or.inr ht5) K hr3; clear K hr3; simp only [List.nil_append] at M)
    | ((with_reducible apply W_loadAll (cs := ([0, 0, 0, 0, 0, 0, 1, 0, 0, 0, 0, 0, 0, 0, 0, 0, 0, 0, 0, 0, 0, 0, 0, 0, 0, 0, 0, 0, 0, 0, 0, s].map n8).toArray)); rfl; exact M.r0; exact Salg.underlying22; rfl; exact (by kernel_rfl); simp only [Act.put, List.setIfInBounds_toArray, List.set_cons_zero, List.set_cons_succ]))
  refine (push32_any [0, 0, 0, 0, 0, 0, 1, 0, 0, 0, 0, 0, 0, 0, 0, 0, 0, 0, 0, 0, 0, 0, 0, 0, 0, 0, 0, 0, 0, 0, 0, s] _ rfl).mono ?_
  rintro e w3 ⟨v, rfl, x1, K⟩
  have HV := hid x1
  replace M := M.call K
  clear K x1
  go_wp2_with fail
  go_ret
  exact ⟨_, rfl, HV.out, M.kept⟩
end Go.Proofs.YgcsalGreat

/-
  The walk of law.WordRefines.
-/
import Derived.Test.YgcsalGreatOvers
import Derived.Test.YgcsalGreatPerm
import Derived.Test.YgcsalGreatLate
set_option linter.unusedSimpArgs false
set_option linter.unusedVariables false
namespace Go.Proofs.YgcsalGreat
open Go.RowKit Go.Own

set_option maxHeartbeats 2000000 in
set_option maxRecDepth 100000 in
theorem wordRefines_any (o : Nat) (ba bb bc : List Nat) (w : World) (ho : o < 256) (ha : ba.length = 32) (hb : bb.length = 32) (hc : bc.length = 32) (hsa : Small ba) (hsb : Small bb) (hsc : Small bc) :
    Calls Salg.prog 3 #[.int .u8 o, A8 ba, A8 bb, A8 bc] w fun e w' => e = .returned (.bool true) ∧ Kept [] w w' := by
  have M := Mem.start w []
  have HBX := hid (fun w => fromBytes_any ba w ha hsa)
  have HBY := hid (fun w => fromBytes_any bb w hb hsb)
  have HBZ := hid (fun w => fromBytes_any bc w hc hsc)
  have hxl : (limbs4 ba).length = 4 := rfl
  have hyl : (limbs4 bb).length = 4 := rfl
  have hzl : (limbs4 bc).length = 4 := rfl
  have HOV := hid (fun w => oversHold_yes ba bb w ha hb hsa hsb)
  have HSZ := hid (fun w => sizesHold_yes ba w ha hsa)
  obtain ⟨ws, kn, hwl, HW, HRF⟩ : ∃ (ws : List Nat) (kn : Bool), ws.length = 4 ∧ Hid (∀ w, Calls Salg.prog 9 #[.int .u8 o, A64 (limbs4 ba), A64 (limbs4 bb), A64 (limbs4 bc)] w fun e w' => e = .returned (.tuple #[A64 ws, .bool kn]) ∧ Kept [] w w') ∧
      Hid (∀ w, Calls Salg.prog 10 #[.int .u8 o, A8 ba, A8 bb, A8 bc, A64 ws, .bool kn] w fun e w' => e = .returned (.bool true) ∧ Kept [] w w') := by
    cases hop : isOp o
    · exact ⟨[0, 0, 0, 0], false, rfl, fun w => wordAlu_none o _ _ _ w hop ho, fun w => refinesHolds_no o ba bb bc _ w ha hb hc hsa hsb hsc hop ho⟩
    · have h := fun w => wordAlu_all o (limbs4 ba) (limbs4 bb) (limbs4 bc) w hop hxl hyl hzl (limbs4_limbs ba hsa) (limbs4_limbs bb hsb) (limbs4_limbs bc hsc)
      rw [be_limbs4 ha, be_limbs4 hb, be_limbs4 hc] at h
      exact ⟨_, true, nl_length _ _, h, fun w => refinesHolds_yes o ba bb bc _ w ha hb hc hsa hsb hsc hop (nl_length _ _) (nl_limbs _ _) (nl_lval _ _)⟩
  clear hsa hsb hsc
  generalize limbs4 ba = xl at *
  generalize limbs4 bb = yl at *
  generalize limbs4 bc = zl at *
  go_enter Salg.func3, Salg.ntmps3
  go_wp2_with (first
    | ((with_reducible apply L_box (d := 5) M); rfl; clear M; intro c1 w1 hc1 M; simp only [Act.put, List.setIfInBounds_toArray, List.set_cons_zero, List.set_cons_succ])
    | ((with_reducible apply L_box (d := 6) M); rfl; clear M; intro c2 w1 hc2 M; simp only [Act.put, List.setIfInBounds_toArray, List.set_cons_zero, List.set_cons_succ])
    | ((with_reducible apply L_box (d := 7) M); rfl; clear M; intro c3 w1 hc3 M; simp only [Act.put, List.setIfInBounds_toArray, List.set_cons_zero, List.set_cons_succ])
    | ((with_reducible apply W_loadAll); rfl; (first | with_reducible exact M.r0 | with_reducible exact M.r1 | with_reducible exact M.r2 | with_reducible exact M.r3 | with_reducible exact M.r4 | with_reducible exact M.r5 | with_reducible exact M.r6 | assumption | exact M.kept.row (by assumption) (by simp)); exact Salg.underlying22; rfl; (first | with_reducible exact size22 | (rw [size22]; simp [ha, hb])); simp only [Act.put, List.setIfInBounds_toArray, List.set_cons_zero, List.set_cons_succ]))
  refine (HBX.out _).mono ?_
  rintro e w2 ⟨rfl, K⟩
  replace M := M.call K
  clear K
  go_wp2_with (first
    | ((with_reducible apply L_allocA (d := 9) M); exact zero25; clear M; intro c4 w1 hc4 M; simp only [Act.put, List.setIfInBounds_toArray, List.set_cons_zero, List.set_cons_succ])
    | ((with_reducible apply W_storeK (b := c4)); rfl; rfl; exact M.r0; exact size25; (first | rfl | simp [hxl]); exact one64 _; intro w3 K hr3; replace M := Mem.callPut (L1 := []) M (Or.inr (by assumption)) K hr3; clear K hr3; simp only [List.cons_append, List.nil_append] at M)
    | ((with_reducible apply W_loadAll); rfl; (first | with_reducible exact M.r0 | with_reducible exact M.r1 | with_reducible exact M.r2 | with_reducible exact M.r3 | with_reducible exact M.r4 | with_reducible exact M.r5 | with_reducible exact M.r6 | assumption | exact M.kept.row (by assumption) (by simp)); exact Salg.underlying22; rfl; (first | with_reducible exact size22 | (rw [size22]; simp [ha, hb])); simp only [Act.put, List.setIfInBounds_toArray, List.set_cons_zero, List.set_cons_succ]))
  refine (HBY.out _).mono ?_
  rintro e w3 ⟨rfl, K⟩
  replace M := M.call K
  clear K
  go_wp2_with (first
    | ((with_reducible apply L_allocA (d := 10) M); exact zero25; clear M; intro c5 w1 hc5 M; simp only [Act.put, List.setIfInBounds_toArray, List.set_cons_zero, List.set_cons_succ])
    | ((with_reducible apply W_storeK (b := c5)); rfl; rfl; exact M.r0; exact size25; (first | rfl | simp [hyl]); exact one64 _; intro w3 K hr3; replace M := Mem.callPut (L1 := []) M (Or.inr (by assumption)) K hr3; clear K hr3; simp only [List.cons_append, List.nil_append] at M))
  refine S_region (by kernel_rfl) ?_
  refine S_nrml ?_
  refine S_late 8 (by kernel_rfl) ?_
  simp only [List.map_cons, List.map_nil, bind1]
  refine V_stage 0 9 10 (fun i => R64 25 (List.replicate 4 0)) (by kernel_rfl) (by decide) (by decide)
    (by intro i h1 h2; obtain rfl : i = 9 := by omega
        exact ⟨11, 25, _, _, _, _, rfl, zero25, rfl⟩) M.drew ?_
  clear M
  simp only [List.take_succ_cons, List.take_zero, List.drop_zero, List.drop_succ_cons, Nat.sub_zero, Nat.reduceSub]
  ((with_reducible apply V_run); rfl; (intro w M; go_simp; (try go_ints); (try simp only [↓IntWalk.iteOmega]); (try with_reducible rfl)); simp only [Act.put, List.setIfInBounds_toArray, List.set_cons_zero, List.set_cons_succ])
  ((with_reducible apply V_run); rfl; (intro w M; exact run_loadAll (by (first | with_reducible exact M.r0 | with_reducible exact M.r1 | with_reducible exact M.r2 | with_reducible exact M.r3 | with_reducible exact M.r4 | with_reducible exact M.r5 | with_reducible exact M.r6 | assumption | exact M.kept.row (by assumption) (by simp))) rfl Salg.underlying25 rfl (by first | with_reducible exact size25 | (rw [size25]; simp [hxl]))); simp only [Act.put, List.setIfInBounds_toArray, List.set_cons_zero, List.set_cons_succ])
  ((with_reducible apply V_run); rfl; (intro w M; exact run_loadAll (by (first | with_reducible exact M.r0 | with_reducible exact M.r1 | with_reducible exact M.r2 | with_reducible exact M.r3 | with_reducible exact M.r4 | with_reducible exact M.r5 | with_reducible exact M.r6 | assumption | exact M.kept.row (by assumption) (by simp))) rfl Salg.underlying25 rfl (by first | with_reducible exact size25 | (rw [size25]; simp [hyl]))); simp only [Act.put, List.setIfInBounds_toArray, List.set_cons_zero, List.set_cons_succ])
  ((with_reducible apply V_run); rfl; (intro w M; exact run_loadAll (by (first | with_reducible exact M.r0 | with_reducible exact M.r1 | with_reducible exact M.r2 | with_reducible exact M.r3 | with_reducible exact M.r4 | with_reducible exact M.r5 | with_reducible exact M.r6 | assumption | exact M.kept.row (by assumption) (by simp))) rfl Salg.underlying22 rfl (by first | with_reducible exact size22 | (rw [size22]; simp [hc]))); simp only [Act.put, List.setIfInBounds_toArray, List.set_cons_zero, List.set_cons_succ])
  refine V_call rfl Salg.func8 (by kernel_rfl) (by kernel_rfl) (args := [A8 bc]) rfl (fun w M => HBZ.out w) ?_
  simp only [Act.put, List.setIfInBounds_toArray, List.set_cons_zero, List.set_cons_succ]
  refine V_call rfl Salg.func9 (by kernel_rfl) (by kernel_rfl) (args := [.int .u8 o, A64 xl, A64 yl, A64 zl]) rfl (fun w M => HW.out w) ?_
  simp only [Act.put, List.setIfInBounds_toArray, List.set_cons_zero, List.set_cons_succ]
  ((with_reducible apply V_run); rfl; (intro w M; go_simp; (try go_ints); (try simp only [↓IntWalk.iteOmega]); (try with_reducible rfl)); simp only [Act.put, List.setIfInBounds_toArray, List.set_cons_zero, List.set_cons_succ])
  ((with_reducible apply V_run); rfl; (intro w M; go_simp; (try go_ints); (try simp only [↓IntWalk.iteOmega]); (try with_reducible rfl)); simp only [Act.put, List.setIfInBounds_toArray, List.set_cons_zero, List.set_cons_succ])
  ((with_reducible apply V_run); rfl; (intro w M; go_simp; (try go_ints); (try simp only [↓IntWalk.iteOmega]); (try with_reducible rfl)); simp only [Act.put, List.setIfInBounds_toArray, List.set_cons_zero, List.set_cons_succ])
  refine V_nil ?_
  intro bl w6 hbl M
  have hc6 := hbl 9 (by decide) (by decide)
  simp only [Nat.reduceSub, List.range', newRows, List.map_cons, List.map_nil, List.reverse_cons, List.reverse_nil, List.nil_append, List.cons_append, Nat.reduceAdd] at M
  simp only [Nat.reduceSub, List.range', puts, if_true, dstOf, Nat.reduceAdd, List.getElem?_cons_succ, List.getElem?_cons_zero, Option.bind_some]
  simp only [Act.put, List.setIfInBounds_toArray, List.set_cons_zero, List.set_cons_succ]
  generalize bl 9 = c6 at *
  clear hbl
  refine S_seg 10 12 (by kernel_rfl) (by decide) ?_
  simp only [List.take_succ_cons, List.take_zero, List.drop_zero, List.drop_succ_cons, Nat.sub_zero, Nat.reduceSub]
  go_wp2_with ((with_reducible apply W_storeK (b := c6)); rfl; rfl; exact M.r0; exact size25; (first | rfl | simp [hwl]); exact one64 _; intro w3 K hr3; replace M := Mem.callPut (L1 := []) M (Or.inr (by assumption)) K hr3; clear K hr3; simp only [List.cons_append, List.nil_append] at M)
  refine S_done ?_
  refine ⟨rfl, ?_⟩
  go_wp2_with (first
    | ((with_reducible apply W_loadAll); rfl; (first | with_reducible exact M.r0 | with_reducible exact M.r1 | with_reducible exact M.r2 | with_reducible exact M.r3 | with_reducible exact M.r4 | with_reducible exact M.r5 | with_reducible exact M.r6 | assumption | exact M.kept.row (by assumption) (by simp)); exact Salg.underlying22; rfl; (first | with_reducible exact size22 | (rw [size22]; simp [ha, hb, hc])); simp only [Act.put, List.setIfInBounds_toArray, List.set_cons_zero, List.set_cons_succ])
    | ((with_reducible apply W_loadAll); rfl; (first | with_reducible exact M.r0 | with_reducible exact M.r1 | with_reducible exact M.r2 | with_reducible exact M.r3 | with_reducible exact M.r4 | with_reducible exact M.r5 | with_reducible exact M.r6 | assumption | exact M.kept.row (by assumption) (by simp)); exact Salg.underlying25; rfl; (first | with_reducible exact size25 | (rw [size25]; simp [hwl])); simp only [Act.put, List.setIfInBounds_toArray, List.set_cons_zero, List.set_cons_succ]))
  refine (HRF.out _).mono ?_
  rintro e w7 ⟨rfl, K⟩
  replace M := M.call K
  clear K
  go_wp2_with ((with_reducible apply W_loadAllG); rfl; rfl; (first | with_reducible exact M.r0 | with_reducible exact M.r1 | with_reducible exact M.r2 | with_reducible exact M.r3 | with_reducible exact M.r4 | with_reducible exact M.r5 | with_reducible exact M.r6 | assumption | exact M.kept.row (by assumption) (by simp)); exact Salg.underlying22; rfl; (first | with_reducible exact size22 | (rw [size22]; simp [ha, hb])); simp only [Act.put, List.setIfInBounds_toArray, List.set_cons_zero, List.set_cons_succ])
  refine (HOV.out _).mono ?_
  rintro e w8 ⟨rfl, K⟩
  replace M := M.call K
  clear K
  go_wp2_with ((with_reducible apply W_loadAllG); rfl; rfl; (first | with_reducible exact M.r0 | with_reducible exact M.r1 | with_reducible exact M.r2 | with_reducible exact M.r3 | with_reducible exact M.r4 | with_reducible exact M.r5 | with_reducible exact M.r6 | assumption | exact M.kept.row (by assumption) (by simp)); exact Salg.underlying22; rfl; (first | with_reducible exact size22 | (rw [size22]; simp [ha, hb])); simp only [Act.put, List.setIfInBounds_toArray, List.set_cons_zero, List.set_cons_succ])
  refine (HSZ.out _).mono ?_
  rintro e w9 ⟨rfl, K⟩
  replace M := M.call K
  clear K
  go_wp2_with fail
  go_ret
  exact ⟨rfl, M.kept⟩
end Go.Proofs.YgcsalGreat

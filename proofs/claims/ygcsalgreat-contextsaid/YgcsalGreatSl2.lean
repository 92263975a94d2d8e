/-
  The walk of law.storeProgram.
-/
import Derived.Test.YgcsalGreatSl1
import Derived.Test.YgcsalGreatEff2
set_option linter.unusedSimpArgs false
set_option linter.unusedVariables false
namespace Go.Proofs.YgcsalGreat
open Go.RowKit Go.Own
theorem size22' (l : List Nat) (h : l.length = 32) : (Salg.prog.info? 22).map (·.size) = some (l.map n8).toArray.size := by rw [size22]; simp [h]

set_option maxHeartbeats 4000000 in
set_option maxRecDepth 100000 in
theorem storeProgram_any (k v : List Nat) (w : World) (hk : k.length = 32) (hv : v.length = 32) : Calls Salg.prog 31 #[A8 k, A8 v] w fun e w' => ∃ r, e = .returned r ∧ w'.ownsRow w.heap.size 5 1 r 67 ((127 :: v ++ 127 :: k ++ [85]).map n8) ∧ Kept [] w w' := by
  have M := Mem.start w []
  have HK := hid hk
  have HV := hid hv
  have HP := hid (fun l w' (hl : l.length = 32) => push32_any l w' hl)
  clear hk hv
  go_enter Salg.func31, Salg.ntmps31
  go_wp2_with (first
    | ((with_reducible apply L_box (d := 2) M); rfl; clear M; intro t2 w1 ht2 M; simp only [Act.put, List.setIfInBounds_toArray, List.set_cons_zero, List.set_cons_succ])
    | ((with_reducible apply L_box (d := 3) M); rfl; clear M; intro t3 w2 ht3 M; simp only [Act.put, List.setIfInBounds_toArray, List.set_cons_zero, List.set_cons_succ]))
  refine S_region (by kernel_rfl) ?_
  refine E_float2 (fun b => .slice (some ⟨b, 0, none⟩) 1 1) 0 5 [0, 2, 1, 3] 4 9 (.cells #[n8 85] 5 (0, 0)) (by kernel_rfl) ⟨⟨_, rfl, rfl, rfl, fun a w => run_buildIt (a := a) (x := .const (.int .u8 85)) (u := .int .u8 85) (s := 1) rfl rfl Salg.underlying40 size5 zero5s rfl (by decide) (by decide)⟩⟩ (by simp) M.drew ?_
  clear M
  simp only [List.filterMap_cons, List.filterMap_nil, List.getElem?_cons_zero, List.getElem?_cons_succ]
  ((with_reducible apply E_run); rfl; rfl; (intro w M; exact run_loadAll M.r0 rfl Salg.underlying22 rfl (size22' _ HV.out)); simp only [Act.put, List.setIfInBounds_toArray, List.set_cons_zero, List.set_cons_succ])
  ((with_reducible apply E_run); rfl; rfl; (intro w M; exact run_loadAll M.r1 rfl Salg.underlying22 rfl (size22' _ HK.out)); simp only [Act.put, List.setIfInBounds_toArray, List.set_cons_zero, List.set_cons_succ])
  refine E_call rfl Salg.func33 (by kernel_rfl) (by kernel_rfl) (args := [A8 v]) rfl ?_
  intro w1 K M
  clear K
  refine (HP.out v _ HV.out).mono ?_
  rintro e w3 ⟨a1, rfl, xH1, K⟩
  have H1 := hid xH1
  clear xH1
  replace M := M.call K
  refine ⟨_, rfl, K.mono (by simp), M, ?_⟩
  clear K
  simp only [Act.put, List.setIfInBounds_toArray, List.set_cons_zero, List.set_cons_succ]
  refine E_call rfl Salg.func33 (by kernel_rfl) (by kernel_rfl) (args := [A8 k]) rfl ?_
  intro w1 K M
  replace H1 := hid (H1.out.kept K)
  clear K
  refine (HP.out k _ HK.out).mono ?_
  rintro e w4 ⟨a2, rfl, xH2, K⟩
  have H2 := hid xH2
  clear xH2
  replace H1 := hid (H1.out.kept K)
  replace M := M.call K
  refine ⟨_, rfl, K.mono (by simp), M, ?_⟩
  clear K
  simp only [Act.put, List.setIfInBounds_toArray, List.set_cons_zero, List.set_cons_succ]
  refine E_nil ?_
  intro w5 K M
  replace H1 := hid (H1.out.kept K)
  replace H2 := hid (H2.out.kept K)
  clear K
  intro b9 w6 K hb9 M
  replace H1 := hid (H1.out.kept K)
  replace H2 := hid (H2.out.kept K)
  clear K
  simp only [Act.put, List.setIfInBounds_toArray, List.set_cons_zero, List.set_cons_succ]
  refine S_seg 5 7 (by kernel_rfl) (by decide) ?_
  simp only [List.take_succ_cons, List.take_zero, List.drop_zero, List.drop_succ_cons, Nat.sub_zero, Nat.reduceSub]
  go_wp2_with fail
  have hw6 := M.kept.size
  have H3 := hid (RowV.own (own_lit (base := 0) (n := 1) M.r0 rfl (by decide) (Nat.zero_le _)))
  refine (join_three a1 ((127 :: v).map n8) a2 ((127 :: k).map n8) _ [n8 85] _ H1.out (by simp) (by simp [HV.out]) (n8_one _) H2.out (by simp) (by simp [HK.out]) (n8_one _) H3.out (by simp) (by simp) (n8_one [85])).mono ?_
  rintro e w7 ⟨r, rfl, xHR, K⟩
  have HR := hid xHR
  replace M := M.call K
  clear K xHR
  go_wp2_with fail
  refine S_done ?_
  go_wp2_with fail
  go_ret
  refine ⟨r, rfl, ?_, M.kept⟩
  have h := own_mono HR.out hw6
  simp only [List.length_map, List.length_cons, List.length_nil, HV.out, HK.out] at h
  simpa using h
end Go.Proofs.YgcsalGreat

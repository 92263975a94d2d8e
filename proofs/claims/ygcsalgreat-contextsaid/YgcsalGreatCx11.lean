/-
  The walk of (*yp.World).move.
-/
import Derived.Test.YgcsalGreatCx10
import Derived.Test.YgcsalGreatMv32
set_option linter.unusedSimpArgs false
set_option linter.unusedVariables false
namespace Go.Proofs.YgcsalGreat
open Go.RowKit Go.Own
theorem AdsV.keptN' {X : List Nat} {w w' : World} {v : Value} {l : List (List Nat)} (h : AdsV w v l) (k : Kept X w w') (hX : Hard X w) : AdsV w' v l := ⟨own_keptN h.own k hX (by decide), h.ok, h.len⟩

set_option maxHeartbeats 4000000 in
set_option maxRecDepth 100000 in
theorem move_Z (c V : Nat) (a1 a2 : List Nat) (E : XEnv) (fr rt fv : Value) (la : List (List Nat)) (D : List AD) (d1 : AD) (w : World) (hC : ChY w c E fr rt la) (hv : AccD D w E.vz) (hl1 : a1.length = 20) (hl2 : a2.length = 20) (hs1 : Small a1) (hs2 : Small a2) (hd1 : D.find? (fun x => x.adr == a1) = some d1) (hB : d1.B < 256 ^ 100) (hVB : V ≤ d1.B) (hf : NumV w fv V) (hV0 : V = 0) :
    Calls Salg.prog 173 #[.pointer (some ⟨c, 0, none⟩), A8 a1, A8 a2, fv] w fun e w' => ∃ r, e = .returned r ∧ Kept [] w w' := by
  have M := Mem.start w []
  have HC := hid hC
  have HA := hid hv
  have HF := hid hf
  have HS1 := hid hs1
  have HS2 := hid hs2
  have HD1 := hid hd1
  have hcl : c < w.heap.size := by
    obtain ⟨wz, c1, c2⟩ := hC
    exact lt_of_row c1
  clear hC hv hf hs1 hs2 hd1 
  obtain ⟨x0, x1, x2, x3, x4, x5, x6, x7, x8, x9, x10, x11, x12, x13, x14, x15, x16, x17, x18, x19, rfl⟩ := list20 hl1
  obtain ⟨y0, y1, y2, y3, y4, y5, y6, y7, y8, y9, y10, y11, y12, y13, y14, y15, y16, y17, y18, y19, rfl⟩ := list20 hl2
  go_enter Salg.func173, Salg.ntmps173
  go_wp2_with (first
    | ((with_reducible apply L_box (d := 5) M); rfl; clear M; intro t5 w1 ht5 M; simp only [Act.put, List.setIfInBounds_toArray, List.set_cons_zero, List.set_cons_succ])
    | ((with_reducible apply L_box (d := 6) M); rfl; clear M; intro t6 w2 ht6 M; simp only [Act.put, List.setIfInBounds_toArray, List.set_cons_zero, List.set_cons_succ])
    | ((with_reducible apply W_loadAll); rfl; exact M.r1; exact Salg.underlying45; rfl; exact size45; simp only [Act.put, List.setIfInBounds_toArray, List.set_cons_zero, List.set_cons_succ]))
  obtain ⟨wz, c1, c2⟩ := HC.out.kept M.kept
  refine (account_D c 119 _ E.vz D d1 [x0, x1, x2, x3, x4, x5, x6, x7, x8, x9, x10, x11, x12, x13, x14, x15, x16, x17, x18, x19] _ c1 (chN_get _ _ _ _ (by decide)) ((AccD.still D).kept HA.out M.kept) rfl HD1.out).mono ?_
  rintro e w3 ⟨nv1, bv1, cu1, rfl, q2, q3, q4, K⟩
  have HB1 := hid q3
  replace M := M.call K
  clear K q2 q3 q4 c1 c2
  go_wp2_with ((with_reducible apply W_field (v := bv1)); kernel_rfl; simp only [Act.put, List.setIfInBounds_toArray, List.set_cons_zero, List.set_cons_succ])
  refine (sub_num bv1 fv d1.B V _ HB1.out (HF.out.kept M.kept) (Nat.lt_of_lt_of_le hB (by decide)) hVB).mono ?_
  rintro e w4 ⟨r1, rfl, xHR1, K⟩
  have HR1 := hid xHR1
  replace M := M.call K
  clear K xHR1
  go_wp2_with fail
  refine (isZero_lit fv V true (by simp; exact hV0) _ (HF.out.kept M.kept)).mono ?_
  rintro e w5 ⟨rfl, K⟩
  replace M := M.call K
  skip
  clear K
  go_wp2_with fail
  ((try simp only [Exit.inBlock, Exit.then]); refine bodyPost_ret (results_none rfl _ _ _) rfl ?_)
  exact ⟨_, rfl, M.kept⟩

set_option maxHeartbeats 4000000 in
set_option maxRecDepth 100000 in
theorem move_V (c V : Nat) (a1 a2 : List Nat) (E : XEnv) (fr rt fv : Value) (la : List (List Nat)) (D : List AD) (d1 d2 : AD) (w : World) (hC : ChY w c E fr rt la) (hv : AccD D w E.vz) (hl1 : a1.length = 20) (hl2 : a2.length = 20) (hs1 : Small a1) (hs2 : Small a2) (hd1 : D.find? (fun x => x.adr == a1) = some d1) (hB : d1.B < 256 ^ 100) (hVB : V ≤ d1.B) (hf : NumV w fv V) (hV0 : V ≠ 0) (hN1 : d1.N ≠ 0) (hN2 : d2.N ≠ 0) (hd2 : (dPut ⟨a1, d1.N, d1.B - V, d1.ds⟩ false D).find? (fun x => x.adr == a2) = some d2) (hB2 : d2.B < 256 ^ 100) (hll : D.length ≤ 100) (hll1 : (dPut ⟨a1, d1.N, d1.B - V, d1.ds⟩ false D).length ≤ 100) :
    Calls Salg.prog 173 #[.pointer (some ⟨c, 0, none⟩), A8 a1, A8 a2, fv] w fun e w' => ∃ (r vz' : Value), e = .returned r ∧ ChY w' c { E with vz := vz' } fr rt la ∧ AccD (dPut ⟨a2, d2.N, d2.B + V, d2.ds⟩ false (dPut ⟨a1, d1.N, d1.B - V, d1.ds⟩ false D)) w' vz' ∧ Kept [c] w w' := by
  have M := Mem.start w []
  have HC := hid hC
  have HA := hid hv
  have HF := hid hf
  have HS1 := hid hs1
  have HS2 := hid hs2
  have HD1 := hid hd1
  have HD2 := hid hd2
  have hcl : c < w.heap.size := by
    obtain ⟨wz, c1, c2⟩ := hC
    exact lt_of_row c1
  clear hC hv hf hs1 hs2 hd1 hd2
  obtain ⟨x0, x1, x2, x3, x4, x5, x6, x7, x8, x9, x10, x11, x12, x13, x14, x15, x16, x17, x18, x19, rfl⟩ := list20 hl1
  obtain ⟨y0, y1, y2, y3, y4, y5, y6, y7, y8, y9, y10, y11, y12, y13, y14, y15, y16, y17, y18, y19, rfl⟩ := list20 hl2
  go_enter Salg.func173, Salg.ntmps173
  go_wp2_with (first
    | ((with_reducible apply L_box (d := 5) M); rfl; clear M; intro t5 w1 ht5 M; simp only [Act.put, List.setIfInBounds_toArray, List.set_cons_zero, List.set_cons_succ])
    | ((with_reducible apply L_box (d := 6) M); rfl; clear M; intro t6 w2 ht6 M; simp only [Act.put, List.setIfInBounds_toArray, List.set_cons_zero, List.set_cons_succ])
    | ((with_reducible apply W_loadAll); rfl; exact M.r1; exact Salg.underlying45; rfl; exact size45; simp only [Act.put, List.setIfInBounds_toArray, List.set_cons_zero, List.set_cons_succ]))
  obtain ⟨wz, c1, c2⟩ := HC.out.kept M.kept
  refine (account_D c 119 _ E.vz D d1 [x0, x1, x2, x3, x4, x5, x6, x7, x8, x9, x10, x11, x12, x13, x14, x15, x16, x17, x18, x19] _ c1 (chN_get _ _ _ _ (by decide)) ((AccD.still D).kept HA.out M.kept) rfl HD1.out).mono ?_
  rintro e w3 ⟨nv1, bv1, cu1, rfl, q2, q3, q4, K⟩
  have HB1 := hid q3
  replace M := M.call K
  clear K q2 q3 q4 c1 c2
  go_wp2_with ((with_reducible apply W_field (v := bv1)); kernel_rfl; simp only [Act.put, List.setIfInBounds_toArray, List.set_cons_zero, List.set_cons_succ])
  refine (sub_num bv1 fv d1.B V _ HB1.out (HF.out.kept M.kept) (Nat.lt_of_lt_of_le hB (by decide)) hVB).mono ?_
  rintro e w4 ⟨r1, rfl, xHR1, K⟩
  have HR1 := hid xHR1
  replace M := M.call K
  clear K xHR1
  go_wp2_with fail
  refine (isZero_lit fv V false (by simp; exact hV0) _ (HF.out.kept M.kept)).mono ?_
  rintro e w5 ⟨rfl, K⟩
  replace M := M.call K
  replace HR1 := hid (HR1.out.kept K)
  clear K
  go_wp2_with ((with_reducible apply W_loadAll); rfl; exact M.r1; exact Salg.underlying45; rfl; exact size45; simp only [Act.put, List.setIfInBounds_toArray, List.set_cons_zero, List.set_cons_succ])
  obtain ⟨wz, c1, c2⟩ := HC.out.kept M.kept
  have HO := hid (chy_nb E wz fr rt)
  have hX := hard1 c1 (.inl rfl) HO.out
  have hc5 : c ≠ t5 := by omega
  have hc6 : c ≠ t6 := by omega
  have HMK := hid M.kept
  refine (setBalance_D c _ E.vz r1 (d1.B - V) D d1 [x0, x1, x2, x3, x4, x5, x6, x7, x8, x9, x10, x11, x12, x13, x14, x15, x16, x17, x18, x19] _ c1 HO.out (chN_get _ _ _ _ (by decide)) ((AccD.still D).kept HA.out M.kept) rfl HS1.out HR1.out HD1.out hN1 (by omega)).mono ?_
  rintro e w6 ⟨r6, v6, rfl, K, k1, k2⟩
  replace M : Mem w [c] _ w6 := Mem.callX ((M.into c1 (by
    intro p hp
    simp only [List.mem_cons, List.not_mem_nil, or_false] at hp
    rcases hp with rfl | rfl
    · exact hc6
    · exact hc5)).tail) K (by simp) (by
    intro p hp
    simp only [List.mem_cons, List.not_mem_nil, or_false] at hp
    rcases hp with rfl | rfl
    · exact hc6
    · exact hc5)
  rw [show (chN E wz fr rt).setIfInBounds 0 v6 = chN { E with vz := v6 } wz fr rt from by kernel_rfl] at k1
  have HC6 : Hid (ChY w6 c { E with vz := v6 } fr rt la) := ⟨wz, k1, AdsV.keptN' c2 K hX⟩
  have HA6 := hid k2
  have HF6 := hid ((HF.out.kept HMK.out).keptN K hX)
  clear K k1 k2 c1 c2 hX HO HC HA HR1 HB1 HF HMK
  obtain ⟨EE, hEE⟩ : ∃ EE : XEnv, EE = { E with vz := v6 } := ⟨_, rfl⟩
  rw [← hEE] at HC6
  have hv6 : EE.vz = v6 := by rw [hEE]
  rw [← hv6] at HA6
  have HEE := hid hEE
  clear hEE hv6
  go_wp2_with fail
  refine S_region (by kernel_rfl) ?_
  replace HC6 := hid (HC6.out.kept (Kept.refl [] _).drew)
  replace HA6 := hid ((AccD.still _).kept HA6.out (Kept.refl [] _).drew)
  replace HF6 := hid (HF6.out.kept (Kept.refl [] _).drew)
  refine E_stage 0 9 [0, 1, 2, 3, 6, 4, 5, 7, 8] (by kernel_rfl) M.drew ?_
  clear M
  simp only [List.filterMap_cons, List.filterMap_nil, List.getElem?_cons_zero, List.getElem?_cons_succ]
  ((with_reducible apply E_run); rfl; rfl; (intro w M; go_simp; (try go_ints); (try simp only [↓IntWalk.iteOmega]); (try with_reducible rfl)); simp only [Act.put, List.setIfInBounds_toArray, List.set_cons_zero, List.set_cons_succ])
  ((with_reducible apply E_run); rfl; rfl; (intro w M; exact run_loadAll M.r0 rfl Salg.underlying45 rfl size45); simp only [Act.put, List.setIfInBounds_toArray, List.set_cons_zero, List.set_cons_succ])
  ((with_reducible apply E_run); rfl; rfl; (intro w M; go_simp; (try go_ints); (try simp only [↓IntWalk.iteOmega]); (try with_reducible rfl)); simp only [Act.put, List.setIfInBounds_toArray, List.set_cons_zero, List.set_cons_succ])
  ((with_reducible apply E_run); rfl; rfl; (intro w M; exact run_loadAll M.r0 rfl Salg.underlying45 rfl size45); simp only [Act.put, List.setIfInBounds_toArray, List.set_cons_zero, List.set_cons_succ])
  ((with_reducible apply E_run); rfl; rfl; (intro w M; go_simp; (try go_ints); (try simp only [↓IntWalk.iteOmega]); (try with_reducible rfl)); simp only [Act.put, List.setIfInBounds_toArray, List.set_cons_zero, List.set_cons_succ])
  refine E_call rfl Salg.func85 (by kernel_rfl) (by kernel_rfl) (args := [.pointer (some ⟨c, 0, none⟩), A8 [y0, y1, y2, y3, y4, y5, y6, y7, y8, y9, y10, y11, y12, y13, y14, y15, y16, y17, y18, y19]]) rfl ?_
  intro w7 K M
  replace HC6 := hid (HC6.out.kept K)
  replace HA6 := hid ((AccD.still _).kept HA6.out K)
  replace HF6 := hid (HF6.out.kept K)
  clear K
  obtain ⟨wz2, c1, c2⟩ := HC6.out
  refine (account_D c 119 _ EE.vz _ d2 [y0, y1, y2, y3, y4, y5, y6, y7, y8, y9, y10, y11, y12, y13, y14, y15, y16, y17, y18, y19] _ c1 (chN_get _ _ _ _ (by decide)) HA6.out rfl HD2.out).mono ?_
  clear c1 c2
  rintro e w8 ⟨nv2, bv2, cu2, rfl, q2, q3, q4, K⟩
  have HB2 := hid q3
  replace HC6 := hid (HC6.out.kept K)
  replace HA6 := hid ((AccD.still _).kept HA6.out K)
  replace HF6 := hid (HF6.out.kept K)
  replace M := M.call K
  clear K q2 q3 q4
  refine ⟨_, rfl, trivial, M, ?_⟩
  simp only [Act.put, List.setIfInBounds_toArray, List.set_cons_zero, List.set_cons_succ]
  ((with_reducible apply E_run (v := bv2)); rfl; rfl; (intro w M; kernel_rfl); simp only [Act.put, List.setIfInBounds_toArray, List.set_cons_zero, List.set_cons_succ])
  refine E_call rfl Salg.func68 (by kernel_rfl) (by kernel_rfl) (args := [bv2, fv]) rfl ?_
  intro w7 K M
  refine (add_num bv2 fv d2.B V _ (HB2.out.kept K) (HF6.out.kept K) (Nat.lt_of_lt_of_le hB2 (by decide)) (Nat.lt_of_le_of_lt hVB (Nat.lt_of_lt_of_le hB (by decide)))).mono ?_
  replace HC6 := hid (HC6.out.kept K)
  replace HA6 := hid ((AccD.still _).kept HA6.out K)
  clear K HB2 HF6
  rintro e w8 ⟨sm, rfl, q1, K⟩
  have HSM := hid q1
  replace HC6 := hid (HC6.out.kept K)
  replace HA6 := hid ((AccD.still _).kept HA6.out K)
  replace M := M.call K
  clear K q1
  refine ⟨_, rfl, trivial, M, ?_⟩
  simp only [Act.put, List.setIfInBounds_toArray, List.set_cons_zero, List.set_cons_succ]
  refine E_call rfl Salg.func92 (by kernel_rfl) (by kernel_rfl) (args := [.pointer (some ⟨c, 0, none⟩), A8 [y0, y1, y2, y3, y4, y5, y6, y7, y8, y9, y10, y11, y12, y13, y14, y15, y16, y17, y18, y19], sm]) rfl ?_
  intro w7 K M
  replace HC6 := hid (HC6.out.kept K)
  replace HA6 := hid ((AccD.still _).kept HA6.out K)
  replace HSM := hid (HSM.out.kept K)
  clear K
  obtain ⟨wz2, c1, c2⟩ := HC6.out
  have HO := hid (chy_nb EE wz2 fr rt)
  have hX := hard1 c1 (.inl rfl) HO.out
  refine (setBalance_D c _ EE.vz sm (d2.B + V) _ d2 [y0, y1, y2, y3, y4, y5, y6, y7, y8, y9, y10, y11, y12, y13, y14, y15, y16, y17, y18, y19] _ c1 HO.out (chN_get _ _ _ _ (by decide)) HA6.out rfl HS2.out HSM.out HD2.out hN2 (by omega)).mono ?_
  rintro e w8 ⟨r8, v8, rfl, K, k1, k2⟩
  rw [show (chN EE wz2 fr rt).setIfInBounds 0 v8 = chN { EE with vz := v8 } wz2 fr rt from by kernel_rfl] at k1
  have HC8 : Hid (ChY w8 c { EE with vz := v8 } fr rt la) := ⟨wz2, k1, AdsV.keptN' c2 K hX⟩
  have HA8 := hid k2
  replace M := M.callX K (by simp) (by
    intro p hp
    simp only [List.mem_cons, List.not_mem_nil, or_false] at hp
    rcases hp with rfl | rfl
    · exact hc6
    · exact hc5)
  clear K k1 k2 c1 c2 hX HO HC6 HA6
  refine ⟨_, rfl, trivial, M, ?_⟩
  simp only [Act.put, List.setIfInBounds_toArray, List.set_cons_zero, List.set_cons_succ]
  refine E_nil ?_
  intro w9 K M
  replace HC8 := hid (HC8.out.kept K)
  replace HA8 := hid ((AccD.still _).kept HA8.out K)
  clear K
  refine S_done ?_
  go_wp2_with fail
  go_end0
  rw [HEE.out] at HC8
  exact ⟨_, v8, rfl, HC8.out, HA8.out, M.kept⟩
end Go.Proofs.YgcsalGreat

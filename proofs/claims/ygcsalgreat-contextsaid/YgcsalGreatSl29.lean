/-
  (*yp.State).stores; effect at SSTORE and MSTORE; value at SLOAD; grow to one word; write.
-/
import Derived.Test.YgcsalGreatSl28
import Derived.Test.YgcsalGreatMv34
set_option linter.unusedSimpArgs false
set_option linter.unusedVariables false
namespace Go.Proofs.YgcsalGreat
open Go.RowKit Go.Own
theorem warmSlot_C (c K : Nat) (fr kv : Value) (la : List (List Nat)) (mo : Option Nat) (so : Option (Nat × Nat)) (R : Nat) (ds1 ds2 : List Nat) (w : World) (hC : ChainV w c fr la mo so R ds1 ds2) (hmo : mo = none ∨ mo = some K) (hk : NumV w kv K) :
    Calls Salg.prog 94 #[.pointer (some ⟨c, 0, none⟩), A8 (ad 1), kv] w fun e w' => ∃ r, e = .returned r ∧ ChainV w' c fr la (some K) so R ds1 ds2 ∧ Kept [c] w w' := by
  obtain ⟨vz, wz, mv, rv, lim, gv0, pr, tv, c1, c2, c3, c4, c5, c6⟩ := hC
  obtain ⟨nv, bv, cu, sl, nv2, bv2, cu2, nv3, bv3, w1, w2, w3, w4, w5, w6, w7, w8, w9, wa, wb, wc, wd⟩ := c2
  have ho := chR_nb vz wz mv rv fr lim gv0 pr tv
  refine (warmSlot_all c 119 _ mv kv K mo w c1 (by kernel_rfl) w3 hmo hk ho (by decide)).mono ?_
  rintro e w' ⟨r, v', rfl, K1, hr, hm⟩
  refine ⟨r, rfl, ⟨vz, wz, v', rv, lim, gv0, pr, tv, ?_, ⟨nv, bv, cu, sl, nv2, bv2, cu2, nv3, bv3, w1.keptC K1 c1 (by decide), w2.keptC K1 c1 (by decide), hm, w4.keptC K1 c1 ho, SlotV.keptC K1 c1 ho (by decide) w5, w6.keptC K1 c1 ho, w7.keptC K1 c1 ho, w8.keptC K1 c1 ho, w9.keptC K1 c1 ho, wa.keptC K1 c1 ho, wb.keptC K1 c1 ho, wc.keptC K1 c1 ho, wd.keptC K1 c1 ho⟩, c3.keptC K1 c1 ho, c4.keptC K1 c1 ho, c5.keptC K1 c1 ho, c6⟩, K1⟩
  rw [hr]
  exact congrArg (fun x => some (Obj.cells x 119 (0, 0))) (show (chR vz wz mv rv fr lim gv0 pr tv).setIfInBounds 2 v' = chR vz wz v' rv fr lim gv0 pr tv from by kernel_rfl)
theorem store_C (c K V : Nat) (fr kv vv : Value) (la : List (List Nat)) (mo : Option Nat) (so : Option (Nat × Nat)) (R : Nat) (ds1 ds2 : List Nat) (w : World) (hC : ChainV w c fr la mo so R ds1 ds2) (hso : so = none ∨ ∃ V, so = some (K, V)) (hk : NumV w kv K) (hx : NumV w vv V) :
    Calls Salg.prog 246 #[.pointer (some ⟨c, 0, none⟩), A8 (ad 1), kv, vv] w fun e w' => ∃ r, e = .returned r ∧ ChainV w' c fr la mo (slotNew K V) R ds1 ds2 ∧ Kept [c] w w' := by
  obtain ⟨vz, wz, mv, rv, lim, gv0, pr, tv, c1, c2, c3, c4, c5, c6⟩ := hC
  obtain ⟨nv, bv, cu, sl, nv2, bv2, cu2, nv3, bv3, w1, w2, w3, w4, w5, w6, w7, w8, w9, wa, wb, wc, wd⟩ := c2
  have ho := chR_nb vz wz mv rv fr lim gv0 pr tv
  refine (store_all c 119 _ vz nv bv cu sl nv2 bv2 cu2 nv3 bv3 kv vv 1 K V so w c1 (by kernel_rfl) w1 w5 hso hk hx w6 (by decide) w7.one w8.one ho (by decide) (by decide)).mono ?_
  rintro e w' ⟨r, v', s', rfl, K1, hr, ha, hs⟩
  refine ⟨r, rfl, ⟨v', wz, mv, rv, lim, gv0, pr, tv, ?_, ⟨nv, bv, cu, s', nv2, bv2, cu2, nv3, bv3, ha, w2.keptC K1 c1 (by decide), MarkV.keptC K1 c1 ho (by decide) w3, w4.keptC K1 c1 ho, hs, w6.keptC K1 c1 ho, w7.keptC K1 c1 ho, w8.keptC K1 c1 ho, w9.keptC K1 c1 ho, wa.keptC K1 c1 ho, wb.keptC K1 c1 ho, wc.keptC K1 c1 ho, wd.keptC K1 c1 ho⟩, c3.keptC K1 c1 ho, c4.keptC K1 c1 ho, c5.keptC K1 c1 ho, c6⟩, K1⟩
  rw [hr]
  exact congrArg (fun x => some (Obj.cells x 119 (0, 0))) (show (chR vz wz mv rv fr lim gv0 pr tv).setIfInBounds 0 v' = chR v' wz mv rv fr lim gv0 pr tv from by kernel_rfl)

set_option maxHeartbeats 4000000 in
set_option maxRecDepth 100000 in
theorem stores_C (c fb q K N m G : Nat) (fs0 : Array Value) (cv fr mc : Value) (ns : List Nat) (la : List (List Nat)) (mo : Option Nat) (so : Option (Nat × Nat)) (R : Nat) (ds1 ds2 : List Nat) (kv vv : Value) (w : World) (hC : ChainV w c fr la mo so R ds1 ds2) (hF : FrameQ w fb q fs0 m G (ns ++ [N, K]) mc) (hf : FrC fs0 q cv) (hl : ns.length ≤ 30) (hK : KeyOk K mo so) (hkv : NumV w kv K) (hvv : NumV w vv N) (hR : R < 256 ^ 100) :
    Calls Salg.prog 228 #[.pointer (some ⟨c, 0, none⟩), .pointer (some ⟨fb, q, none⟩), kv, vv] w fun e w' => e = .returned (.bool true) ∧ ChainV w' c fr la (some K) (slotNew K N) (R + sPlus (slotVal so) N) ds1 ds2 ∧ Kept [c] w w' := by
  have M := Mem.start w []
  have HSS := hid (sstore_C c fb q K N m G fs0 cv fr mc ns la mo so R ds1 ds2 w hC hF hf hl hK)
  have HCH := hid hC
  have HKV := hid hkv
  have HVV := hid hvv
  have HKO := hid hK
  have hpl : sPlus (slotVal so) N < 256 ^ 100 := by
    unfold sPlus
    split
    · decide
    · split <;> decide
  clear hC hkv hvv hK
  obtain ⟨fs, pv, gv, sv, xs, hr, h0, h2, h3, h4, h5, h6, h7, h8, h9, ha⟩ := hF
  have HSE : Hid (fs.extract (q + 12) (q + 12 + 20) = ((ad 1).map n8).toArray) := by
    have e := ext_same (a := q + 12) (n := 20) h0 fun k k1 k2 => h2 k (by omega) (by omega) (by omega) (by omega)
    exact e.trans hf.self
  have hsz : q + 12 + 20 ≤ fs.size := by have := hf.size; omega
  clear h0 h2 h3 h4 h5 h6 h7 h8 h9 ha hf
  go_enter Salg.func228, Salg.ntmps228
  go_wp2_with fail
  refine (HSS.out).mono ?_
  rintro e w1 ⟨sc, sp, sm, rfl, xH1, xH2, xH3, K⟩
  have H1 := hid xH1
  have H2 := hid xH2
  have H3 := hid xH3
  replace HCH := hid (HCH.out.kept K)
  replace HKV := hid (HKV.out.kept K)
  replace HVV := hid (HVV.out.kept K)
  replace M := M.call K
  clear K xH1 xH2 xH3
  clear HSS
  obtain ⟨vz, wz, mv, rv, lim, gv0, pr, tv, c1, c2, c3, c4, c5, c6⟩ := HCH.out
  have HRV : Hid (NumV w1 rv R) := by
    obtain ⟨nv, bv, cu, sl, nv2, bv2, cu2, nv3, bv3, y1, y2, y3, y4, _⟩ := c2
    exact y4
  have HC2 := hid c2
  have HC3 := hid c3
  have HC4 := hid c4
  have HC5 := hid c5
  clear c2 c3 c4 c5
  have hfc := HCH.out.frame (M.kept.row hr (by simp))
  have hrw := M.kept.row hr (by simp)
  have HK0 := hid M.kept
  replace M := Mem.start w1 []
  go_wp2_with ((with_reducible apply W_loadCell); rfl; exact M.kept.row c1 (by simp); exact (show (chR vz wz mv rv fr lim gv0 pr tv)[3]? = some rv by kernel_rfl); exact Salg.underlying89; rfl; simp only [Act.put, List.setIfInBounds_toArray, List.set_cons_zero, List.set_cons_succ])
  refine (sub_num rv sm R 0 _ (HRV.out.kept M.kept) (H3.out.kept M.kept) (by omega) (Nat.zero_le _)).mono ?_
  rintro e w2 ⟨rr, rfl, xHRR, K⟩
  have HRR := hid xHRR
  replace M := M.call K
  clear K xHRR
  go_wp2_with fail
  refine (add_num rr sp (R - 0) _ _ HRR.out (H2.out.kept M.kept) (by omega) (by omega)).mono ?_
  rintro e w3 ⟨rs, rfl, xHRS, K⟩
  have HRS := hid xHRS
  replace M := M.call K
  clear K xHRS
  have hcw := M.kept.row c1 (by simp)
  go_wp2_with ((with_reducible apply W_stV (b := c) (o := 3) (v := rs)); rfl; rfl; exact HRS.out.one; exact hcw; exact size89; exact Nat.le_of_ble_eq_true (by kernel_rfl); intro w4 K1 hr4)
  have ho := chR_nb vz wz mv rv fr lim gv0 pr tv
  have HCH2 : Hid (ChainV w4 c fr la mo so (R + sPlus (slotVal so) N) ds1 ds2) := by
    refine ⟨vz, wz, mv, rs, lim, gv0, pr, tv, ?_, ?_, (HC3.out.kept M.kept).keptC K1 hcw ho, (HC4.out.kept M.kept).keptC K1 hcw ho, (HC5.out.kept M.kept).keptC K1 hcw ho, c6⟩
    · rw [hr4]
      exact congrArg (fun x => some (Obj.cells x 119 (0, 0))) (show (chR vz wz mv rv fr lim gv0 pr tv).setIfInBounds 3 rs = chR vz wz mv rs fr lim gv0 pr tv from by kernel_rfl)
    · obtain ⟨nv, bv, cu, sl, nv2, bv2, cu2, nv3, bv3, y1, y2, y3, y4, y5, y6, y7, y8, y9, ya, yb, yc, yd⟩ := WorldW.keptC (WorldW.kept HC2.out M.kept) K1 hcw ho wtype119
      exact ⟨nv, bv, cu, sl, nv2, bv2, cu2, nv3, bv3, y1, y2, y3, HRS.out.keptC K1 hcw ho, y5, y6, y7, y8, y9, ya, yb, yc, yd⟩
  have HK1 := hid ((HK0.out.mono (by simp)).trans ((M.kept.mono (by simp)).trans K1) : Kept [c] w w4)
  replace HKV := hid ((HKV.out.kept M.kept).keptC K1 hcw ho)
  replace HVV := hid ((HVV.out.kept M.kept).keptC K1 hcw ho)
  replace hrw := K1.row (M.kept.row hrw (by simp)) hfc
  clear HC2 HC3 HC4 HC5 HRV HRR HRS H1 H2 H3 M K1 hr4 hcw c1 HCH
  have M := Mem.start w4 []
  go_wp2_with fail
  refine S_region (by kernel_rfl) ?_
  refine E_stage 0 8 [0, 1, 2, 3, 4, 5, 6, 7] (by kernel_rfl) M.drew ?_
  clear M
  simp only [List.filterMap_cons, List.filterMap_nil, List.getElem?_cons_zero, List.getElem?_cons_succ]
  ((with_reducible apply E_run); rfl; rfl; (intro w M; go_simp; (try go_ints); (try simp only [↓IntWalk.iteOmega]); (try with_reducible rfl)); simp only [Act.put, List.setIfInBounds_toArray, List.set_cons_zero, List.set_cons_succ])
  ((with_reducible apply E_run); rfl; rfl; (intro w M; go_simp; (try go_ints); (try simp only [↓IntWalk.iteOmega]); (try with_reducible rfl)); simp only [Act.put, List.setIfInBounds_toArray, List.set_cons_zero, List.set_cons_succ])
  ((with_reducible apply E_run); rfl; rfl; (intro w M; go_simp; (try go_ints); (try simp only [↓IntWalk.iteOmega]); (try with_reducible rfl)); simp only [Act.put, List.setIfInBounds_toArray, List.set_cons_zero, List.set_cons_succ])
  ((with_reducible apply E_run); rfl; rfl; (intro w M; go_simp; (try go_ints); (try simp only [↓IntWalk.iteOmega]); (try with_reducible rfl)); simp only [Act.put, List.setIfInBounds_toArray, List.set_cons_zero, List.set_cons_succ])
  ((with_reducible apply E_run); rfl; rfl; (intro w M; go_simp; (try go_ints); (try simp only [↓IntWalk.iteOmega]); (try with_reducible rfl)); simp only [Act.put, List.setIfInBounds_toArray, List.set_cons_zero, List.set_cons_succ])
  ((with_reducible apply E_run); rfl; rfl; (intro w M; go_simp; (try go_ints); (try simp only [↓IntWalk.iteOmega]); (try with_reducible rfl)); simp only [Act.put, List.setIfInBounds_toArray, List.set_cons_zero, List.set_cons_succ])
  ((with_reducible apply E_run (v := .agg ((ad 1).map n8).toArray)); rfl; rfl; (intro w M; exact run_loadX (n := 20) (M.kept.row hrw (by simp)) rfl Salg.underlying45 rfl size45 hsz HSE.out); simp only [Act.put, List.setIfInBounds_toArray, List.set_cons_zero, List.set_cons_succ])
  ((with_reducible apply E_run); rfl; rfl; (intro w M; go_simp; (try go_ints); (try simp only [↓IntWalk.iteOmega]); (try with_reducible rfl)); simp only [Act.put, List.setIfInBounds_toArray, List.set_cons_zero, List.set_cons_succ])
  refine E_nil ?_
  intro w5 K M
  clear K
  refine S_seg 8 9 (by kernel_rfl) (by decide) ?_
  simp only [List.take_succ_cons, List.take_zero, List.drop_zero, List.drop_succ_cons, Nat.sub_zero, Nat.reduceSub]
  go_wp2_with fail
  refine (warmSlot_C c K fr kv la mo so _ ds1 ds2 _ (HCH2.out.kept M.kept) HKO.out.1 (HKV.out.kept M.kept)).mono ?_
  rintro e w6 ⟨r6, rfl, x6, K1⟩
  have HCH3 := hid x6
  replace HKV := hid ((HCH2.out.kept M.kept).num K1 (HKV.out.kept M.kept))
  replace HVV := hid ((HCH2.out.kept M.kept).num K1 (HVV.out.kept M.kept))
  replace hrw := K1.row (M.kept.row hrw (by simp)) hfc
  replace HK1 := hid ((HK1.out.trans (M.kept.mono (by simp))).trans K1)
  clear x6 K1 M HCH2
  have M := Mem.start w6 []
  go_wp2_with fail
  refine S_done ?_
  go_wp2_with fail
  refine S_region (by kernel_rfl) ?_
  refine E_stage 0 9 [0, 1, 2, 3, 4, 5, 6, 7, 8] (by kernel_rfl) M.drew ?_
  clear M
  simp only [List.filterMap_cons, List.filterMap_nil, List.getElem?_cons_zero, List.getElem?_cons_succ]
  ((with_reducible apply E_run); rfl; rfl; (intro w M; go_simp; (try go_ints); (try simp only [↓IntWalk.iteOmega]); (try with_reducible rfl)); simp only [Act.put, List.setIfInBounds_toArray, List.set_cons_zero, List.set_cons_succ])
  ((with_reducible apply E_run); rfl; rfl; (intro w M; go_simp; (try go_ints); (try simp only [↓IntWalk.iteOmega]); (try with_reducible rfl)); simp only [Act.put, List.setIfInBounds_toArray, List.set_cons_zero, List.set_cons_succ])
  ((with_reducible apply E_run); rfl; rfl; (intro w M; go_simp; (try go_ints); (try simp only [↓IntWalk.iteOmega]); (try with_reducible rfl)); simp only [Act.put, List.setIfInBounds_toArray, List.set_cons_zero, List.set_cons_succ])
  ((with_reducible apply E_run); rfl; rfl; (intro w M; go_simp; (try go_ints); (try simp only [↓IntWalk.iteOmega]); (try with_reducible rfl)); simp only [Act.put, List.setIfInBounds_toArray, List.set_cons_zero, List.set_cons_succ])
  ((with_reducible apply E_run); rfl; rfl; (intro w M; go_simp; (try go_ints); (try simp only [↓IntWalk.iteOmega]); (try with_reducible rfl)); simp only [Act.put, List.setIfInBounds_toArray, List.set_cons_zero, List.set_cons_succ])
  ((with_reducible apply E_run); rfl; rfl; (intro w M; go_simp; (try go_ints); (try simp only [↓IntWalk.iteOmega]); (try with_reducible rfl)); simp only [Act.put, List.setIfInBounds_toArray, List.set_cons_zero, List.set_cons_succ])
  ((with_reducible apply E_run (v := .agg ((ad 1).map n8).toArray)); rfl; rfl; (intro w M; exact run_loadX (n := 20) (M.kept.row hrw (by simp)) rfl Salg.underlying45 rfl size45 hsz HSE.out); simp only [Act.put, List.setIfInBounds_toArray, List.set_cons_zero, List.set_cons_succ])
  ((with_reducible apply E_run); rfl; rfl; (intro w M; go_simp; (try go_ints); (try simp only [↓IntWalk.iteOmega]); (try with_reducible rfl)); simp only [Act.put, List.setIfInBounds_toArray, List.set_cons_zero, List.set_cons_succ])
  ((with_reducible apply E_run); rfl; rfl; (intro w M; go_simp; (try go_ints); (try simp only [↓IntWalk.iteOmega]); (try with_reducible rfl)); simp only [Act.put, List.setIfInBounds_toArray, List.set_cons_zero, List.set_cons_succ])
  refine E_nil ?_
  intro w7 K M
  clear K
  refine S_seg 9 10 (by kernel_rfl) (by decide) ?_
  simp only [List.take_succ_cons, List.take_zero, List.drop_zero, List.drop_succ_cons, Nat.sub_zero, Nat.reduceSub]
  go_wp2_with fail
  refine (store_C c K N fr kv vv la (some K) so _ ds1 ds2 _ (HCH3.out.kept M.kept) HKO.out.2 (HKV.out.kept M.kept) (HVV.out.kept M.kept)).mono ?_
  rintro e w8 ⟨r8, rfl, x8, K1⟩
  have HCH4 := hid x8
  replace HK1 := hid ((HK1.out.trans (M.kept.mono (by simp))).trans K1)
  clear x8 K1 M HCH3
  go_wp2_with fail
  refine S_done ?_
  go_wp2_with fail
  go_ret
  exact ⟨rfl, HCH4.out, HK1.out⟩

set_option maxHeartbeats 4000000 in
set_option maxRecDepth 100000 in
theorem effect_sstore (st fp a b : Value) (ab : Nat) (args : Array Value) (Post : World → Prop) (X : List Nat) (w : World) (hab : w.heap[ab]? = some (.cells args 89 (0, 0))) (ha : args[0]? = some a) (hb : args[1]? = some b)
    (hS : Calls Salg.prog 228 #[st, fp, a, b] w fun e w' => e = .returned (.bool true) ∧ Post w' ∧ Kept X w w') :
    Calls Salg.prog 197 #[st, fp, .int .u8 85, .slice (some ⟨ab, 0, none⟩) 2 2] w fun e w' => e = .returned (.bool true) ∧ Post w' ∧ Kept X w w' := by
  have HS := hid hS
  clear hS
  go_enter Salg.func197, Salg.ntmps197
  go_wp2_with fail
  refine (operand_in 0 ab 2 2 args a _ hab (by decide) (by decide) ha).mono ?_
  rintro e w1 ⟨rfl, hw⟩
  replace hw := hw.symm
  subst hw
  go_wp2_with fail
  refine (operand_in 1 ab 2 2 args b _ hab (by decide) (by decide) hb).mono ?_
  rintro e w1 ⟨rfl, hw⟩
  replace hw := hw.symm
  subst hw
  go_wp2_with fail
  refine (operand_out 2 _ _ _ _ (by decide)).mono ?_
  rintro e w1 ⟨rfl, hw⟩
  replace hw := hw.symm
  subst hw
  go_wp2_with fail
  refine HS.out.mono ?_
  rintro e w2 ⟨rfl, x1, x2⟩
  have H1 := hid x1
  have H2 := hid x2
  clear x1 x2
  go_wp2_with fail
  go_ret
  exact ⟨rfl, H1.out, H2.out⟩

set_option maxHeartbeats 4000000 in
set_option maxRecDepth 100000 in
theorem value_sload (c fb q K N m G : Nat) (fs0 : Array Value) (cv fr mc : Value) (ns : List Nat) (la : List (List Nat)) (mo : Option Nat) (so : Option (Nat × Nat)) (R : Nat) (ds1 ds2 : List Nat) (ab : Nat) (args : Array Value) (kv : Value) (w : World) (hC : ChainV w c fr la (some K) so R ds1 ds2) (hF : FrameQ w fb q fs0 m G ns mc) (hf : FrC fs0 q cv) (hK : KeyOk K (some K) so) (hkv : NumV w kv K) (hab : w.heap[ab]? = some (.cells args 89 (0, 0))) (ha0 : args[0]? = some kv) :
    Calls Salg.prog 196 #[.pointer (some ⟨c, 0, none⟩), .pointer (some ⟨fb, q, none⟩), .int .u8 84, .slice (some ⟨ab, 0, none⟩) 1 1] w fun e w' => ∃ u, e = .returned u ∧ NumV w' u (slotVal so) ∧ Kept [] w w' := by
  have M := Mem.start w []
  have HKV := hid hkv
  have HW : Hid (∀ w', Kept [] w w' → Calls Salg.prog 94 #[.pointer (some ⟨c, 0, none⟩), A8 (ad 1), kv] w' fun e w'' => ∃ r, e = .returned r ∧ Kept [] w' w'') := by
    intro w' K1
    obtain ⟨vz, wz, mv, rv, lim, gv0, pr, tv, c1, c2, c3, c4, c5, c6⟩ := hC
    obtain ⟨nv, bv, cu, sl, nv2, bv2, cu2, nv3, bv3, y1, y2, y3, y4, y5, _⟩ := c2
    exact warmSlot_some c 119 _ mv kv K w' (K1.row c1 (by simp)) (by kernel_rfl) (MarkV.kept y3 K1) (hkv.kept K1)
  have HL : Hid (∀ w', Kept [] w w' → Calls Salg.prog 225 #[.pointer (some ⟨c, 0, none⟩), A8 (ad 1), kv] w' fun e w'' => ∃ r, e = .returned r ∧ NumV w'' r (slotVal so) ∧ Kept [] w' w'') := by
    intro w' K1
    obtain ⟨vz, wz, mv, rv, lim, gv0, pr, tv, c1, c2, c3, c4, c5, c6⟩ := hC
    obtain ⟨nv, bv, cu, sl, nv2, bv2, cu2, nv3, bv3, y1, y2, y3, y4, y5, _⟩ := c2
    exact load_all c 119 _ vz nv bv cu sl nv2 bv2 cu2 nv3 bv3 kv K so w' (K1.row c1 (by simp)) (by kernel_rfl) (y1.kept K1) (SlotV.kept y5 K1) hK.2 (hkv.kept K1)
  clear hC hkv hK
  obtain ⟨fs, pv, gv, sv, xs, hr, h0, h2, h3, h4, h5, h6, h7, h8, h9, ha⟩ := hF
  have HSE : Hid (fs.extract (q + 12) (q + 12 + 20) = ((ad 1).map n8).toArray) := by
    have e := ext_same (a := q + 12) (n := 20) h0 fun k k1 k2 => h2 k (by omega) (by omega) (by omega) (by omega)
    exact e.trans hf.self
  have hsz : q + 12 + 20 ≤ fs.size := by have := hf.size; omega
  clear h0 h2 h3 h4 h5 h6 h7 h8 h9 ha hf
  go_enter Salg.func196, Salg.ntmps196
  go_wp2_with fail
  refine (operand_in 0 ab 1 1 args kv _ hab (by decide) (by decide) ha0).mono ?_
  rintro e w1 ⟨rfl, hw⟩
  replace hw := hw.symm
  subst hw
  go_wp2_with fail
  refine (operand_out 1 _ _ _ _ (by decide)).mono ?_
  rintro e w1 ⟨rfl, hw⟩
  replace hw := hw.symm
  subst hw
  go_wp2_with fail
  refine (family_sload _).mono ?_
  rintro e w1 ⟨rfl, hw⟩
  replace hw := hw.symm
  subst hw
  go_wp2_with fail
  refine S_region (by kernel_rfl) ?_
  refine E_stage 0 9 [0, 1, 2, 3, 4, 5, 6, 7, 8] (by kernel_rfl) M.drew ?_
  clear M
  simp only [List.filterMap_cons, List.filterMap_nil, List.getElem?_cons_zero, List.getElem?_cons_succ]
  ((with_reducible apply E_run); rfl; rfl; (intro w M; go_simp; (try go_ints); (try simp only [↓IntWalk.iteOmega]); (try with_reducible rfl)); simp only [Act.put, List.setIfInBounds_toArray, List.set_cons_zero, List.set_cons_succ])
  ((with_reducible apply E_run); rfl; rfl; (intro w M; go_simp; (try go_ints); (try simp only [↓IntWalk.iteOmega]); (try with_reducible rfl)); simp only [Act.put, List.setIfInBounds_toArray, List.set_cons_zero, List.set_cons_succ])
  ((with_reducible apply E_run); rfl; rfl; (intro w M; go_simp; (try go_ints); (try simp only [↓IntWalk.iteOmega]); (try with_reducible rfl)); simp only [Act.put, List.setIfInBounds_toArray, List.set_cons_zero, List.set_cons_succ])
  ((with_reducible apply E_run); rfl; rfl; (intro w M; go_simp; (try go_ints); (try simp only [↓IntWalk.iteOmega]); (try with_reducible rfl)); simp only [Act.put, List.setIfInBounds_toArray, List.set_cons_zero, List.set_cons_succ])
  ((with_reducible apply E_run); rfl; rfl; (intro w M; go_simp; (try go_ints); (try simp only [↓IntWalk.iteOmega]); (try with_reducible rfl)); simp only [Act.put, List.setIfInBounds_toArray, List.set_cons_zero, List.set_cons_succ])
  ((with_reducible apply E_run); rfl; rfl; (intro w M; go_simp; (try go_ints); (try simp only [↓IntWalk.iteOmega]); (try with_reducible rfl)); simp only [Act.put, List.setIfInBounds_toArray, List.set_cons_zero, List.set_cons_succ])
  ((with_reducible apply E_run (v := .agg ((ad 1).map n8).toArray)); rfl; rfl; (intro w M; exact run_loadX (n := 20) (M.kept.row hr (by simp)) rfl Salg.underlying45 rfl size45 hsz HSE.out); simp only [Act.put, List.setIfInBounds_toArray, List.set_cons_zero, List.set_cons_succ])
  ((with_reducible apply E_run); rfl; rfl; (intro w M; go_simp; (try go_ints); (try simp only [↓IntWalk.iteOmega]); (try with_reducible rfl)); simp only [Act.put, List.setIfInBounds_toArray, List.set_cons_zero, List.set_cons_succ])
  refine E_call rfl Salg.func94 (by kernel_rfl) (by kernel_rfl) (args := [.pointer (some ⟨c, 0, none⟩), A8 (ad 1), kv]) rfl ?_
  intro w1 K M
  clear K
  refine (HW.out _ M.kept).mono ?_
  rintro e w2 ⟨r0, rfl, K⟩
  replace M := M.call K
  refine ⟨_, rfl, trivial, M, ?_⟩
  clear K
  simp only [Act.put, List.setIfInBounds_toArray, List.set_cons_zero, List.set_cons_succ]
  refine E_nil ?_
  intro w3 K M
  clear K
  refine S_done ?_
  go_wp2_with fail
  refine S_region (by kernel_rfl) ?_
  refine E_stage 0 10 [0, 1, 2, 3, 4, 5, 6, 7, 8, 9] (by kernel_rfl) M.drew ?_
  clear M
  simp only [List.filterMap_cons, List.filterMap_nil, List.getElem?_cons_zero, List.getElem?_cons_succ]
  ((with_reducible apply E_run); rfl; rfl; (intro w M; go_simp; (try go_ints); (try simp only [↓IntWalk.iteOmega]); (try with_reducible rfl)); simp only [Act.put, List.setIfInBounds_toArray, List.set_cons_zero, List.set_cons_succ])
  ((with_reducible apply E_run); rfl; rfl; (intro w M; go_simp; (try go_ints); (try simp only [↓IntWalk.iteOmega]); (try with_reducible rfl)); simp only [Act.put, List.setIfInBounds_toArray, List.set_cons_zero, List.set_cons_succ])
  ((with_reducible apply E_run); rfl; rfl; (intro w M; go_simp; (try go_ints); (try simp only [↓IntWalk.iteOmega]); (try with_reducible rfl)); simp only [Act.put, List.setIfInBounds_toArray, List.set_cons_zero, List.set_cons_succ])
  ((with_reducible apply E_run); rfl; rfl; (intro w M; go_simp; (try go_ints); (try simp only [↓IntWalk.iteOmega]); (try with_reducible rfl)); simp only [Act.put, List.setIfInBounds_toArray, List.set_cons_zero, List.set_cons_succ])
  ((with_reducible apply E_run); rfl; rfl; (intro w M; go_simp; (try go_ints); (try simp only [↓IntWalk.iteOmega]); (try with_reducible rfl)); simp only [Act.put, List.setIfInBounds_toArray, List.set_cons_zero, List.set_cons_succ])
  ((with_reducible apply E_run); rfl; rfl; (intro w M; go_simp; (try go_ints); (try simp only [↓IntWalk.iteOmega]); (try with_reducible rfl)); simp only [Act.put, List.setIfInBounds_toArray, List.set_cons_zero, List.set_cons_succ])
  ((with_reducible apply E_run (v := .agg ((ad 1).map n8).toArray)); rfl; rfl; (intro w M; exact run_loadX (n := 20) (M.kept.row hr (by simp)) rfl Salg.underlying45 rfl size45 hsz HSE.out); simp only [Act.put, List.setIfInBounds_toArray, List.set_cons_zero, List.set_cons_succ])
  ((with_reducible apply E_run); rfl; rfl; (intro w M; go_simp; (try go_ints); (try simp only [↓IntWalk.iteOmega]); (try with_reducible rfl)); simp only [Act.put, List.setIfInBounds_toArray, List.set_cons_zero, List.set_cons_succ])
  refine E_call rfl Salg.func225 (by kernel_rfl) (by kernel_rfl) (args := [.pointer (some ⟨c, 0, none⟩), A8 (ad 1), kv]) rfl ?_
  intro w1 K M
  clear K
  refine (HL.out _ M.kept).mono ?_
  rintro e w4 ⟨r1, rfl, xH1, K⟩
  have H1 := hid xH1
  clear xH1
  replace M := M.call K
  refine ⟨_, rfl, trivial, M, ?_⟩
  clear K
  simp only [Act.put, List.setIfInBounds_toArray, List.set_cons_zero, List.set_cons_succ]
  ((with_reducible apply E_run); rfl; rfl; (intro w M; go_simp; (try go_ints); (try simp only [↓IntWalk.iteOmega]); (try with_reducible rfl)); simp only [Act.put, List.setIfInBounds_toArray, List.set_cons_zero, List.set_cons_succ])
  refine E_nil ?_
  intro w5 K M
  replace H1 := hid (H1.out.kept K)
  clear K
  refine S_done ?_
  go_wp2_with fail
  go_ret
  exact ⟨_, rfl, H1.out, M.kept⟩

set_option maxHeartbeats 4000000 in
set_option maxRecDepth 100000 in
theorem grow_01 (fb q m G : Nat) (fs0 : Array Value) (ns : List Nat) (u : Value) (w : World) (hF : FrameQ w fb q fs0 m G ns nilS) (hu : NumV w u 32) :
    Calls Salg.prog 113 #[.pointer (some ⟨fb, q, none⟩), u] w fun e w' => ∃ r mb, e = .returned r ∧ w.heap.size ≤ mb ∧ FrameQ w' fb q fs0 m G ns (.slice (some ⟨mb, 0, none⟩) 32 32) ∧ w'.heap[mb]? = some (R8 5 (List.replicate 32 0)) ∧ Kept [fb] w w' := by
  have M := Mem.start w []
  obtain ⟨fs, pv, gv, sv, xs, hr, h0, h2, h3, h4, h5, h6, h7, h8, h9, ha⟩ := hF
  obtain ⟨p, n, cp, rfl⟩ := rowV_slice h8
  have hnb := hid (not_bytes_at (tc := 142) h7)
  have z9 : q + 9 < fs.size := (Array.getElem?_eq_some_iff.1 ha).1
  have HX0 := hid h0
  have HX2 := hid h2
  have HX4 := hid h4
  have HX6 := hid h6
  have HX8 := hid h8
  have HX9 := hid h9
  have HU := hid hu
  clear h0 h2 h4 h6 h8 h9 hu
  have hlt := lt_of_row hr
  go_enter Salg.func113, Salg.ntmps113
  go_wp2_with fail
  refine (words_any u 32 _ HU.out (by decide)).mono ?_
  rintro e w1 ⟨r1, rfl, xH1, K⟩
  have H1 := hid xH1
  replace M := M.call K
  clear K xH1
  go_wp2_with fail
  refine (small_any r1 1 _ H1.out (by decide)).mono ?_
  rintro e w2 ⟨rfl, hw⟩
  replace hw := hw.symm
  subst hw
  go_wp2_with (first
    | ((with_reducible apply W_loadCell); rfl; exact M.kept.row hr (by simp); exact ha; exact Salg.underlying40; rfl; simp only [Act.put, List.setIfInBounds_toArray, List.set_cons_zero, List.set_cons_succ])
    | ((with_reducible apply W_make8 (n := 32) M); rfl; rfl; rfl; rfl; decide; exact Salg.underlying40; exact info5; clear M; intro mb w3 hmb M; simp only [Act.put, List.setIfInBounds_toArray, List.set_cons_zero, List.set_cons_succ])
    | ((with_reducible apply W_copy0); rfl; rfl; exact Salg.underlying40; exact size5; rfl; simp only [Act.put, List.setIfInBounds_toArray, List.set_cons_zero, List.set_cons_succ])
    | ((with_reducible apply W_stV (b := fb) (o := q + 9) (v := .slice (some ⟨mb, 0, none⟩) 32 32)); rfl; rfl; rfl; exact M.kept.row hr (by simp); exact size40; exact z9; intro w4 K1 hr4))
  go_end0
  have hrow := M.kept.row hr (by simp)
  have hmf : mb ≠ fb := by omega
  have KK : Kept [fb] w w4 := (M.kept.mono (by simp)).trans K1
  refine ⟨_, mb, rfl, hmb, ⟨_, pv, gv, .slice p n cp, xs, hr4, by simp only [Array.size_setIfInBounds]; exact HX0.out, fun k k3 k4 k8 k9 => by rw [Array.getElem?_setIfInBounds_ne (by omega)]; exact HX2.out k k3 k4 k8 k9, by rw [Array.getElem?_setIfInBounds_ne (by omega)]; exact h3, HX4.out.keptC KK hr hnb.out, by rw [Array.getElem?_setIfInBounds_ne (by omega)]; exact h5, HX6.out.keptC KK hr hnb.out, by rw [Array.getElem?_setIfInBounds_ne (by omega)]; exact h7, HX8.out.keptC KK hr (by decide), HX9.out.keptC KK hr hnb.out, Array.getElem?_setIfInBounds_self_of_lt z9⟩, K1.row M.r0 (by simpa using hmf), KK⟩

set_option maxHeartbeats 4000000 in
set_option maxRecDepth 100000 in
theorem write_word (fb q mb sb t : Nat) (fs : Array Value) (o : Value) (bs : List Nat) (w : World) (hr : w.heap[fb]? = some (.cells fs 142 (0, 0))) (h9 : fs[q + 9]? = some (.slice (some ⟨mb, 0, none⟩) 32 32)) (hm : w.heap[mb]? = some (R8 5 (List.replicate 32 0))) (hs : w.heap[sb]? = some (R8 t bs)) (hb : bs.length = 32) (ho : NumV w o 0) :
    Calls Salg.prog 186 #[.pointer (some ⟨fb, q, none⟩), o, .slice (some ⟨sb, 0, none⟩) 32 32] w fun e w' => ∃ r, e = .returned r ∧ w'.heap[mb]? = some (R8 5 bs) ∧ Kept [mb] w w' := by
  have M := (Mem.start w [mb]).add hm (by simp)
  have HO := hid ho
  clear ho
  go_enter Salg.func186, Salg.ntmps186
  go_wp2_with ((with_reducible apply W_loadCell); rfl; exact hr; exact h9; exact Salg.underlying40; rfl; simp only [Act.put, List.setIfInBounds_toArray, List.set_cons_zero, List.set_cons_succ])
  refine (place_in o 0 32 _ HO.out (by decide) (by decide)).mono ?_
  rintro e w1 ⟨rfl, hw⟩
  replace hw := hw.symm
  subst hw
  go_wp2_with (first
    | ((with_reducible apply W_loadCell); rfl; exact hr; exact h9; exact Salg.underlying40; rfl; simp only [Act.put, List.setIfInBounds_toArray, List.set_cons_zero, List.set_cons_succ])
    | ((with_reducible apply W_copyMap0 (f := n8) (fun _ => rfl)); rfl; rfl; exact Salg.underlying40; exact size5; exact M; exact Or.inl (by simp); exact hs; (simp <;> omega); (simp <;> omega); clear M; intro w3 M; simp only [Act.put, List.setIfInBounds_toArray, List.set_cons_zero, List.set_cons_succ]))
  go_end0
  refine ⟨_, rfl, ?_, M.kept⟩
  have := M.r0
  have e : bs.take (min 32 32) ++ (List.replicate 32 0).drop (min 32 32) = bs := by
    rw [Nat.min_self, List.take_of_length_le (by omega), List.drop_of_length_le (by simp), List.append_nil]
  rw [e] at this
  exact this

set_option maxHeartbeats 4000000 in
set_option maxRecDepth 100000 in
theorem effect_mstore (st a b : Value) (fb q mb ab : Nat) (fs args : Array Value) (bs : List Nat) (w : World) (hr : w.heap[fb]? = some (.cells fs 142 (0, 0))) (h9 : fs[q + 9]? = some (.slice (some ⟨mb, 0, none⟩) 32 32)) (hm : w.heap[mb]? = some (R8 5 (List.replicate 32 0))) (hab : w.heap[ab]? = some (.cells args 89 (0, 0))) (ha : args[0]? = some a) (hb : args[1]? = some b) (hA : NumV w a 0) (hB : NumV w b (be bs)) (hl : bs.length = 32) (hs : Small bs) :
    Calls Salg.prog 197 #[st, .pointer (some ⟨fb, q, none⟩), .int .u8 82, .slice (some ⟨ab, 0, none⟩) 2 2] w fun e w' => e = .returned (.bool true) ∧ w'.heap[mb]? = some (R8 5 bs) ∧ Kept [mb] w w' := by
  have M := Mem.start w []
  have HA := hid hA
  have HB := hid hB
  have HS := hid hs
  clear hA hB hs
  go_enter Salg.func197, Salg.ntmps197
  go_wp2_with fail
  refine (operand_in 0 ab 2 2 args a _ hab (by decide) (by decide) ha).mono ?_
  rintro e w1 ⟨rfl, hw⟩
  replace hw := hw.symm
  subst hw
  go_wp2_with fail
  refine (operand_in 1 ab 2 2 args b _ hab (by decide) (by decide) hb).mono ?_
  rintro e w1 ⟨rfl, hw⟩
  replace hw := hw.symm
  subst hw
  go_wp2_with fail
  refine (operand_out 2 _ _ _ _ (by decide)).mono ?_
  rintro e w1 ⟨rfl, hw⟩
  replace hw := hw.symm
  subst hw
  go_wp2_with fail
  refine (word_any b bs _ HB.out hl HS.out).mono ?_
  rintro e w2 ⟨rfl, K⟩
  replace M := M.call K
  clear K
  go_wp2_with (first
    | ((with_reducible apply L_allocA M); exact zero46; clear M; intro t12 w3 ht12 M; simp only [Act.put, List.setIfInBounds_toArray, List.set_cons_zero, List.set_cons_succ])
    | ((with_reducible apply W_storeK (b := t12) (vs := (bs.map n8).toArray)); rfl; rfl; exact M.r0; exact size46; (simp [hl]); (intro u hu; simp at hu; obtain ⟨y, _, rfl⟩ := hu; rfl); intro w4 K hr3; replace M := Mem.callPut (L1 := []) M (Or.inr ht12) K hr3; clear K hr3; simp only [List.nil_append] at M)
    | ((with_reducible apply W_sliceArr (l := 0) (h := 32) (m := 32)); rfl; exact Salg.underlying46; exact size5; (first | exact Or.inl ⟨rfl, rfl⟩ | exact Or.inr ⟨_, _, _, rfl, rfl, by omega⟩); (first | exact Or.inl ⟨rfl, rfl⟩ | exact Or.inr ⟨_, _, _, rfl, rfl, by omega⟩); (first | exact Or.inl ⟨rfl, rfl⟩ | exact Or.inr ⟨_, _, _, rfl, rfl, by omega⟩); (first | exact Or.inl rfl | exact Or.inr rfl); omega; omega; omega; omega; (try simp only [Nat.zero_add, Nat.sub_zero]); simp only [Act.put, List.setIfInBounds_toArray, List.set_cons_zero, List.set_cons_succ]))
  refine (write_word fb q mb t12 46 fs a bs _ (M.kept.row hr (by simp)) h9 (M.kept.row hm (by simp)) M.r0 hl (HA.out.kept M.kept)).mono ?_
  rintro e w5 ⟨r5, rfl, x5, K⟩
  have H5 := hid x5
  have HK := hid ((M.kept.mono (by simp)).trans K : Kept [mb] w w5)
  clear x5 K M
  go_wp2_with fail
  go_ret
  exact ⟨rfl, H5.out, HK.out⟩
end Go.Proofs.YgcsalGreat

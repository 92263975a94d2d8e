/-
  The walks of (*yp.State).enterCall and enters at DELEGATECALL.
-/
import Derived.Test.YgcsalGreatSl29
import Derived.Test.YgcsalGreatSl30
import Derived.Test.YgcsalGreatSl6
import Derived.Test.YgcsalGreatSl27
set_option linter.unusedSimpArgs false
set_option linter.unusedVariables false
namespace Go.Own
/-- A callee's frame while it is made. -/
def frK (kd : Nat) (gv vv cu iu : Value) (s l : List Nat) : List Value := [.int .u8 kd, .int .u8 0, .bool false, nilS, gv, vv, nilS, nilS, nilS, nilS, cu, iu] ++ (s.map n8 ++ (l.map n8 ++ wrow nilS nilS nilS))
theorem frK_one {kd : Nat} {gv vv cu iu : Value} {s l : List Nat} (h1 : gv.oneCell' = true) (h2 : vv.oneCell' = true) (h3 : cu.oneCell' = true) (h4 : iu.oneCell' = true) : ∀ u ∈ (frK kd gv vv cu iu s l).toArray.toList, u.oneCell' = true := by
  intro u hu
  simp only [frK, wrow, List.mem_append, List.mem_map, List.mem_cons, List.not_mem_nil, or_false] at hu
  rcases hu with hu | hu | hu | hu
  · rcases hu with rfl | rfl | rfl | rfl | rfl | rfl | rfl | rfl | rfl | rfl | rfl | rfl <;> first | rfl | assumption
  · obtain ⟨x, _, rfl⟩ := hu; rfl
  · obtain ⟨x, _, rfl⟩ := hu; rfl
  · rcases hu with rfl | rfl | rfl | rfl | rfl | rfl | rfl | rfl <;> rfl
theorem frK_nb (kd : Nat) (gv vv cu iu : Value) (s l : List Nat) : ∀ t l', Obj.cells (frK kd gv vv cu iu s l).toArray 142 (0, 0) ≠ R8 t l' := not_bytes_at (i := 3) (p := none) (n := 0) (m := 0) (by rfl)
/-- A frame's numbers. -/
structure PartsV (w : World) (pv gv sv : Value) (xs : List Value) (m G : Nat) (ns : List Nat) : Prop where
  p : NumV w pv m
  g : NumV w gv G
  s : RowV w 89 sv xs
  n : NumsV w xs ns
theorem PartsV.kept {w w' : World} {pv gv sv : Value} {xs : List Value} {m G : Nat} {ns : List Nat} (h : PartsV w pv gv sv xs m G ns) (k : Kept [] w w') : PartsV w' pv gv sv xs m G ns := ⟨h.p.kept k, h.g.kept k, h.s.kept k, h.n.kept k⟩
theorem PartsV.keptC {w w' : World} {pv gv sv : Value} {xs : List Value} {m G : Nat} {ns : List Nat} {c tc : Nat} {cs : Array Value} (h : PartsV w pv gv sv xs m G ns) (k : Kept [c] w w') (hr : w.heap[c]? = some (.cells cs tc (0, 0))) (ho : ∀ t l, Obj.cells cs tc (0, 0) ≠ R8 t l) (ht : tc ≠ 89) : PartsV w' pv gv sv xs m G ns := ⟨h.p.keptC k hr ho, h.g.keptC k hr ho, h.s.keptC k hr ht, h.n.keptC k hr ho⟩
end Go.Own
namespace Go.Proofs.YgcsalGreat
open Go.RowKit Go.Own

set_option maxHeartbeats 4000000 in
set_option maxRecDepth 100000 in
theorem nativeAt_two (w : World) : Calls Salg.prog 95 #[A8 (ad 2)] w fun e w' => e = .returned (.int .u8 0) ∧ Kept [] w w' := by
  have M := Mem.start w []
  go_enter Salg.func95, Salg.ntmps95
  go_wp2_with (first
    | ((with_reducible apply L_box (d := 1) M); rfl; clear M; intro c1 w1 hc1 M; simp only [Act.put, List.setIfInBounds_toArray, List.set_cons_zero, List.set_cons_succ])
    | ((with_reducible apply W_loadAll); rfl; (first | with_reducible exact M.r0 | with_reducible exact M.r1 | with_reducible exact M.r2 | with_reducible exact M.r3 | with_reducible exact M.r4 | with_reducible exact M.r5 | with_reducible exact M.r6 | assumption | exact M.kept.row (by assumption) (by simp)); exact Salg.underlying45; rfl; (first | with_reducible exact size45 | (rw [size45]; simp [ad])); simp only [Act.put, List.setIfInBounds_toArray, List.set_cons_zero, List.set_cons_succ])
    | ((with_reducible apply W_loadAllG); rfl; rfl; (first | with_reducible exact M.r0 | with_reducible exact M.r1 | with_reducible exact M.r2 | with_reducible exact M.r3 | with_reducible exact M.r4 | with_reducible exact M.r5 | with_reducible exact M.r6 | assumption | exact M.kept.row (by assumption) (by simp)); exact Salg.underlying45; rfl; (first | with_reducible exact size45 | (rw [size45]; simp [ad])); simp only [Act.put, List.setIfInBounds_toArray, List.set_cons_zero, List.set_cons_succ])
    | ((with_reducible apply W_eql8 (l := ad 2) (l' := ad 4)); rfl; rfl; exact Salg.underlying45; exact Salg.underlying5; exact size5; exact guard45; rfl; rfl; rw [decide_eq_false (by decide)]; simp only [Act.put, List.setIfInBounds_toArray, List.set_cons_zero, List.set_cons_succ])
    | ((with_reducible apply L_runG); rfl; exact run_eql8 (l := ad 2) (l' := ad 5) rfl rfl Salg.underlying45 Salg.underlying5 size5 guard45 rfl rfl; rw [decide_eq_false (by decide)]; simp only [Act.put, List.setIfInBounds_toArray, List.set_cons_zero, List.set_cons_succ]))
  go_ret
  exact ⟨rfl, M.kept⟩

theorem warm_C (c : Nat) (fr : Value) (la : List (List Nat)) (mo : Option Nat) (so : Option (Nat × Nat)) (R : Nat) (ds1 ds2 : List Nat) (w : World) (hC : ChainV w c fr la mo so R ds1 ds2) (hl : la.length ≤ 20) :
    Calls Salg.prog 93 #[.pointer (some ⟨c, 0, none⟩), A8 (ad 2)] w fun e w' => ∃ r, e = .returned r ∧ ChainV w' c fr (adWith la (ad 2)) mo so R ds1 ds2 ∧ Kept [c] w w' := by
  obtain ⟨vz, wz, mv, rv, lim, gv0, pr, tv, c1, c2, c3, c4, c5, c6⟩ := hC
  obtain ⟨nv, bv, cu, sl, nv2, bv2, cu2, nv3, bv3, w1, w2, w3, w4, w5, w6, w7, w8, w9, wa, wb, wc, wd⟩ := c2
  have ho := chR_nb vz wz mv rv fr lim gv0 pr tv
  refine (warm_any c 119 _ wz la (ad 2) w c1 (by kernel_rfl) w2 (ad_ok 2 (by decide)) (by omega) (by decide)).mono ?_
  rintro e w' ⟨r, v', rfl, K1, hr, hm⟩
  refine ⟨r, rfl, ⟨vz, v', mv, rv, lim, gv0, pr, tv, ?_, ⟨nv, bv, cu, sl, nv2, bv2, cu2, nv3, bv3, w1.keptC K1 c1 (by decide), hm, MarkV.keptC K1 c1 ho (by decide) w3, w4.keptC K1 c1 ho, SlotV.keptC K1 c1 ho (by decide) w5, w6.keptC K1 c1 ho, w7.keptC K1 c1 ho, w8.keptC K1 c1 ho, w9.keptC K1 c1 ho, wa.keptC K1 c1 ho, wb.keptC K1 c1 ho, wc.keptC K1 c1 ho, wd.keptC K1 c1 ho⟩, c3.keptC K1 c1 ho, c4.keptC K1 c1 ho, c5.keptC K1 c1 ho, c6⟩, K1⟩
  rw [hr]
  exact congrArg (fun x => some (Obj.cells x 119 (0, 0))) (show (chR vz wz mv rv fr lim gv0 pr tv).setIfInBounds 1 v' = chR vz v' mv rv fr lim gv0 pr tv from by kernel_rfl)
theorem balance_C (c : Nat) (fr : Value) (la : List (List Nat)) (mo : Option Nat) (so : Option (Nat × Nat)) (R : Nat) (ds1 ds2 : List Nat) (w : World) (hC : ChainV w c fr la mo so R ds1 ds2) : ∃ nv bv cu sl, NumV w bv 0 ∧ ∀ w', Kept [] w w' →
    Calls Salg.prog 85 #[.pointer (some ⟨c, 0, none⟩), A8 (ad 1)] w' fun e w'' => e = .returned (.agg (acN 1 nv bv cu sl).cells.toArray) ∧ Kept [] w' w'' := by
  obtain ⟨vz, wz, mv, rv, lim, gv0, pr, tv, c1, c2, c3, c4, c5, c6⟩ := hC
  obtain ⟨nv, bv, cu, sl, nv2, bv2, cu2, nv3, bv3, w1, w2, w3, w4, w5, w6, w7, w8, w9, wa, wb, wc, wd⟩ := c2
  exact ⟨nv, bv, cu, sl, w7, fun w' K => account_1 c 119 _ vz nv bv cu sl nv2 bv2 cu2 nv3 bv3 w' (K.row c1 (by simp)) (by kernel_rfl) (w1.kept K)⟩
theorem code_C (c : Nat) (fr : Value) (la : List (List Nat)) (mo : Option Nat) (so : Option (Nat × Nat)) (R : Nat) (ds1 ds2 : List Nat) (w : World) (hC : ChainV w c fr la mo so R ds1 ds2) : ∃ nv bv cu, NatV w cu ds2 ∧ ∀ w', Kept [] w w' →
    Calls Salg.prog 85 #[.pointer (some ⟨c, 0, none⟩), A8 (ad 2)] w' fun e w'' => e = .returned (.agg (acN 2 nv bv cu nilS).cells.toArray) ∧ Kept [] w' w'' := by
  obtain ⟨vz, wz, mv, rv, lim, gv0, pr, tv, c1, c2, c3, c4, c5, c6⟩ := hC
  obtain ⟨nv, bv, cu, sl, nv2, bv2, cu2, nv3, bv3, w1, w2, w3, w4, w5, w6, w7, w8, w9, wa, wb, wc, wd⟩ := c2
  exact ⟨nv2, bv2, cu2, wb, fun w' K => account_2 c 119 _ vz nv bv cu sl nv2 bv2 cu2 nv3 bv3 w' (K.row c1 (by simp)) (by kernel_rfl) (w1.kept K)⟩

set_option maxHeartbeats 4000000 in
set_option maxRecDepth 100000 in
theorem enterCall_D (c K base fb cap m G A : Nat) (fs0 : Array Value) (cv vv mv : Value) (ns : List Nat) (la : List (List Nat)) (so : Option (Nat × Nat)) (R : Nat) (ds1 ds2 : List Nat) (w : World) (hC : ChainV w c (.slice (some ⟨fb, 0, none⟩) 1 cap) la (some K) so R ds1 ds2) (hF : FrameQ w fb 0 fs0 m G (ns ++ [0, 0, 0, 0, 2, A]) mv) (hf : FrC fs0 0 cv) (hv : fs0[5]? = some vv) (hv1 : vv.oneCell' = true) (hca : fs0.extract 32 (32 + 20) = ((ad 240).map n8).toArray) (hl : ns.length ≤ 20) (hm : m ≤ 1000) (hso : so = none ∨ ∃ V, so = some (K, V)) (hl0 : 0 < (adWith la (ad 2)).length) (hl1 : la.length ≤ 15) (hl2 : (adWith la (ad 2)).length ≤ 20) (hsz : fs0.size = cap * 60) (hcap : cap ≤ maxLen) (hc1 : 1 ≤ cap) (hbase : base ≤ fb) (hG : G < 1000000) :
    Calls Salg.prog 194 #[.pointer (some ⟨c, 0, none⟩), .pointer (some ⟨fb, 0, none⟩), .int .u8 244] w fun e w' => ∃ (r : Value) (fb' cap' : Nat) (cur : Array Value) (pv gv sv r7 cw sg a0 a1 a2 a3 : Value) (xs : List Value), e = .returned r ∧ ChainV w' c (.slice (some ⟨fb', 0, none⟩) 2 cap') (adWith la (ad 2)) (some K) so R ds1 ds2 ∧ w'.heap[fb']? = some (.cells cur 142 (0, 0)) ∧ base ≤ fb' ∧ (∀ k, k < 60 → k ≠ 3 → k ≠ 4 → k ≠ 6 → k ≠ 7 → k ≠ 8 → k ≠ 9 → cur[k]? = fs0[k]?) ∧ cur[3]? = some pv ∧ cur[4]? = some gv ∧ cur[6]? = some nilS ∧ cur[7]? = some r7 ∧ cur[8]? = some sv ∧ cur[9]? = some mv ∧ PartsV w' pv gv sv xs m (G - min A (G - G / 64)) ns ∧ NumV w' r7 0 ∧ (∀ k, k < 60 → cur[60 + k]? = (frD sg vv cw nilS (wrow4 a0 a1 a2 a3))[k]?) ∧ NumV w' sg (min A (G - G / 64)) ∧ NatV w' cw ds2 ∧ cur.size = cap' * 60 ∧ cap' ≤ maxLen ∧ 2 ≤ cap' ∧ WorldS w' a0 a1 a2 a3 (adWith la (ad 2)) (some K) so R ds1 ds2 ∧ (∀ v ds, NatV w v ds → NatV w' v ds) ∧ Kept [c, fb] w w' := by
  have M := Mem.start w []
  obtain ⟨fs, pv, gv, sv, xs, hr, h0, h2, h3, h4, h5, h6, h7, h8, h9, ha⟩ := hF
  have hxl : xs.length = ns.length + 6 := by have := h9.1; simpa using this
  obtain ⟨u0, hu0⟩ : ∃ u, xs[xs.length - 1 - 0]? = some u := ⟨_, List.getElem?_eq_getElem (by omega)⟩
  obtain ⟨u1, hu1⟩ : ∃ u, xs[xs.length - 1 - 1]? = some u := ⟨_, List.getElem?_eq_getElem (by omega)⟩
  obtain ⟨u2, hu2⟩ : ∃ u, xs[xs.length - 1 - 2]? = some u := ⟨_, List.getElem?_eq_getElem (by omega)⟩
  obtain ⟨u3, hu3⟩ : ∃ u, xs[xs.length - 1 - 3]? = some u := ⟨_, List.getElem?_eq_getElem (by omega)⟩
  obtain ⟨u4, hu4⟩ : ∃ u, xs[xs.length - 1 - 4]? = some u := ⟨_, List.getElem?_eq_getElem (by omega)⟩
  obtain ⟨u5, hu5⟩ : ∃ u, xs[xs.length - 1 - 5]? = some u := ⟨_, List.getElem?_eq_getElem (by omega)⟩
  obtain ⟨p, cp, rfl⟩ : ∃ p cap, sv = .slice p xs.length cap := by
    rcases h8 with ⟨rfl, rfl⟩ | ⟨g, cap, cur, rfl, _⟩
    · exact ⟨none, 0, rfl⟩
    · exact ⟨_, _, rfl⟩
  have HNB := hid (not_bytes_at (tc := 142) h7)
  have HP : Hid (PartsV w pv gv (.slice p xs.length cp) xs m G (ns ++ [0, 0, 0, 0, 2, A])) := ⟨h4, h6, h8, h9⟩
  have N0 : Hid (NumV w u0 A) := h9.2 _ _ _ hu0 (by rw [hxl, List.getElem?_append_right (by omega)]; simp [show ns.length + 6 - 1 - 0 - ns.length = 5 by omega])
  have N1 : Hid (NumV w u1 2) := h9.2 _ _ _ hu1 (by rw [hxl, List.getElem?_append_right (by omega)]; simp [show ns.length + 6 - 1 - 1 - ns.length = 4 by omega])
  have N2 : Hid (NumV w u2 0) := h9.2 _ _ _ hu2 (by rw [hxl, List.getElem?_append_right (by omega)]; simp [show ns.length + 6 - 1 - 2 - ns.length = 3 by omega])
  have N3 : Hid (NumV w u3 0) := h9.2 _ _ _ hu3 (by rw [hxl, List.getElem?_append_right (by omega)]; simp [show ns.length + 6 - 1 - 3 - ns.length = 2 by omega])
  have N4 : Hid (NumV w u4 0) := h9.2 _ _ _ hu4 (by rw [hxl, List.getElem?_append_right (by omega)]; simp [show ns.length + 6 - 1 - 4 - ns.length = 1 by omega])
  have N5 : Hid (NumV w u5 0) := h9.2 _ _ _ hu5 (by rw [hxl, List.getElem?_append_right (by omega)]; simp [show ns.length + 6 - 1 - 5 - ns.length = 0 by omega])
  have hz : fs.size = cap * 60 := h0.trans hsz
  have hz52 : 0 + 32 + 20 ≤ fs.size := by omega
  have g2 := (h2 2 (by decide) (by decide) (by decide) (by decide)).trans hf.f2
  have g5 := (h2 5 (by decide) (by decide) (by decide) (by decide)).trans hv
  have HSE : Hid (fs.extract 12 (12 + 20) = ((ad 1).map n8).toArray) := by
    have e := ext_same (a := 12) (n := 20) h0 fun k k1 k2 => h2 k (by omega) (by omega) (by omega) (by omega)
    exact e.trans hf.self
  have HCA : Hid (fs.extract 32 (32 + 20) = ((ad 240).map n8).toArray) := by
    have e := ext_same (a := 32) (n := 20) h0 fun k k1 k2 => h2 k (by omega) (by omega) (by omega) (by omega)
    exact e.trans hca
  have HX2 := hid h2
  have HC := hid hC
  have hfc := hC.frame hr
  have hfl := lt_of_row hr
  have hcl : c < w.heap.size := by
    obtain ⟨_, _, _, _, _, _, _, _, y, _⟩ := hC
    exact lt_of_row y
  have z4 : 4 < fs.size := by omega
  clear h2 h4 h6 h8 h9 hC hf hv hca h0
  go_enter Salg.func194, Salg.ntmps194
  go_wp2_with fail
  refine (arity_delegatecall _).mono ?_
  rintro e w1 ⟨rfl, hw⟩
  replace hw := hw.symm
  subst hw
  go_wp2_with fail
  refine (arg_q fb 0 fs _ u0 xs 0 _ (M.kept.row hr (by simp)) h7 (HP.out.s.kept M.kept) (by omega) hu0 (by omega)).mono ?_
  rintro e w2 ⟨rfl, K⟩
  replace M := M.call K
  clear K
  go_wp2_with fail
  refine (arg_q fb 0 fs _ u1 xs 1 _ (M.kept.row hr (by simp)) h7 (HP.out.s.kept M.kept) (by omega) hu1 (by omega)).mono ?_
  rintro e w3 ⟨rfl, K⟩
  replace M := M.call K
  clear K
  go_wp2_with fail
  refine (addrOf_two u1 _ (N1.out.kept M.kept)).mono ?_
  rintro e w4 ⟨rfl, K⟩
  replace M := M.call K
  clear K
  go_wp2_with (first
    | ((with_reducible apply L_allocA M); exact zero45; clear M; intro t10 w5 ht10 M; simp only [Act.put, List.setIfInBounds_toArray, List.set_cons_zero, List.set_cons_succ])
    | ((with_reducible apply W_storeK (b := t10) (vs := ((ad 2).map n8).toArray)); rfl; rfl; exact M.r0; exact size45; rfl; exact oneL rfl; intro w6 K1 hr3; replace M := Mem.callPut (L1 := []) M (Or.inr ht10) K1 hr3; clear K1 hr3; simp only [List.nil_append] at M))
  refine S_region (by kernel_rfl) ?_
  refine E_stage 0 4 [0, 1, 2, 3] (by kernel_rfl) M.drew ?_
  clear M
  simp only [List.filterMap_cons, List.filterMap_nil, List.getElem?_cons_zero, List.getElem?_cons_succ]
  ((with_reducible apply E_run); rfl; rfl; (intro w M; go_simp; (try go_ints); (try simp only [↓IntWalk.iteOmega]); (try with_reducible rfl)); simp only [Act.put, List.setIfInBounds_toArray, List.set_cons_zero, List.set_cons_succ])
  ((with_reducible apply E_run); rfl; rfl; (intro w M; go_simp; (try go_ints); (try simp only [↓IntWalk.iteOmega]); (try with_reducible rfl)); simp only [Act.put, List.setIfInBounds_toArray, List.set_cons_zero, List.set_cons_succ])
  ((with_reducible apply E_run); rfl; rfl; (intro w M; go_simp; (try go_ints); (try simp only [↓IntWalk.iteOmega]); (try with_reducible rfl)); simp only [Act.put, List.setIfInBounds_toArray, List.set_cons_zero, List.set_cons_succ])
  ((with_reducible apply E_run); rfl; rfl; (intro w M; exact run_loadAll (by (first | with_reducible exact M.r0 | with_reducible exact M.r1 | with_reducible exact M.r2 | with_reducible exact M.r3 | with_reducible exact M.r4 | with_reducible exact M.r5 | with_reducible exact M.r6 | assumption | exact M.kept.row (by assumption) (by simp))) rfl Salg.underlying45 rfl (by first | with_reducible exact size45 | (rw [size45]; simp [ad]))); simp only [Act.put, List.setIfInBounds_toArray, List.set_cons_zero, List.set_cons_succ])
  refine E_nil ?_
  intro w7 K M
  clear K
  refine S_seg 4 5 (by kernel_rfl) (by decide) ?_
  simp only [List.take_succ_cons, List.take_zero, List.drop_zero, List.drop_succ_cons, Nat.sub_zero, Nat.reduceSub]
  go_wp2_with fail
  refine (warm_C c _ la (some K) so R ds1 ds2 _ (HC.out.kept M.kept) (by omega)).mono ?_
  rintro e w8 ⟨r8, rfl, x8, K1⟩
  obtain ⟨vz, wz, mw, rv, lim, gv0, pr, tv, c1, _⟩ := HC.out.kept M.kept
  have HO := hid (chR_nb vz wz mw rv (.slice (some ⟨fb, 0, none⟩) 1 cap) lim gv0 pr tv)
  replace hr := K1.row (M.kept.row hr (by simp)) hfc
  have h10c : t10 ∉ [c] := by simp; omega
  have H10 := hid (K1.row M.r0 h10c)
  replace HP := hid ((HP.out.kept M.kept).keptC K1 c1 HO.out (by decide))
  replace N0 := hid ((N0.out.kept M.kept).keptC K1 c1 HO.out)
  replace N2 := hid ((N2.out.kept M.kept).keptC K1 c1 HO.out)
  replace N3 := hid ((N3.out.kept M.kept).keptC K1 c1 HO.out)
  replace N4 := hid ((N4.out.kept M.kept).keptC K1 c1 HO.out)
  replace N5 := hid ((N5.out.kept M.kept).keptC K1 c1 HO.out)
  have HD : Hid (∀ v ds, NatV w v ds → NatV w8 v ds) := fun v ds h => (h.kept M.kept).keptC K1 c1 HO.out
  have HK : Hid (Kept [c, fb] w w8) := (M.kept.mono (by simp)).trans (K1.mono (by simp))
  replace HC := hid x8
  have h10f : t10 ≠ fb := by omega
  have h10l := lt_of_row H10.out
  clear x8 K1 M c1 HO
  have M : Mem w8 [] [(t10, .cells ((ad 2).map n8).toArray 45 (0, 0))] w8 := (Mem.start w8 []).add H10.out (by simp)
  go_wp2_with fail
  refine S_done ?_
  go_wp2_with fail
  refine S_region (by kernel_rfl) ?_
  refine E_float 0 13 [0, 1, 2, 3, 4, 6, 7, 8, 9, 10, 5, 11] 12 13 _ (by kernel_rfl) ⟨⟨_, _, _, _, _, rfl, zero142, rfl⟩⟩ (by simp) M.drew ?_
  clear M
  simp only [List.filterMap_cons, List.filterMap_nil, List.getElem?_cons_zero, List.getElem?_cons_succ]
  ((with_reducible apply E_run); rfl; rfl; (intro w M; go_simp; (try go_ints); (try simp only [↓IntWalk.iteOmega]); (try with_reducible rfl)); simp only [Act.put, List.setIfInBounds_toArray, List.set_cons_zero, List.set_cons_succ])
  ((with_reducible apply E_run); rfl; rfl; (intro w M; go_simp; (try go_ints); (try simp only [↓IntWalk.iteOmega]); (try with_reducible rfl)); simp only [Act.put, List.setIfInBounds_toArray, List.set_cons_zero, List.set_cons_succ])
  ((with_reducible apply E_run); rfl; rfl; (intro w M; go_simp; (try go_ints); (try simp only [↓IntWalk.iteOmega]); (try with_reducible rfl)); simp only [Act.put, List.setIfInBounds_toArray, List.set_cons_zero, List.set_cons_succ])
  ((with_reducible apply E_run); rfl; rfl; (intro w M; exact run_loadCell (M.kept.row hr (by simp)) rfl g2 Salg.underlying4 rfl); simp only [Act.put, List.setIfInBounds_toArray, List.set_cons_zero, List.set_cons_succ])
  ((with_reducible apply E_run); rfl; rfl; (intro w M; go_simp; (try go_ints); (try simp only [↓IntWalk.iteOmega]); (try with_reducible rfl)); simp only [Act.put, List.setIfInBounds_toArray, List.set_cons_zero, List.set_cons_succ])
  ((with_reducible apply E_run); rfl; rfl; (intro w M; exact run_loadAll (by (first | with_reducible exact M.r0 | with_reducible exact M.r1 | with_reducible exact M.r2 | with_reducible exact M.r3 | with_reducible exact M.r4 | with_reducible exact M.r5 | with_reducible exact M.r6 | assumption | exact M.kept.row (by assumption) (by simp))) rfl Salg.underlying45 rfl (by first | with_reducible exact size45 | (rw [size45]; simp [ad]))); simp only [Act.put, List.setIfInBounds_toArray, List.set_cons_zero, List.set_cons_succ])
  ((with_reducible apply E_run); rfl; rfl; (intro w M; go_simp; (try go_ints); (try simp only [↓IntWalk.iteOmega]); (try with_reducible rfl)); simp only [Act.put, List.setIfInBounds_toArray, List.set_cons_zero, List.set_cons_succ])
  ((with_reducible apply E_run); rfl; rfl; (intro w M; go_simp; (try go_ints); (try simp only [↓IntWalk.iteOmega]); (try with_reducible rfl)); simp only [Act.put, List.setIfInBounds_toArray, List.set_cons_zero, List.set_cons_succ])
  ((with_reducible apply E_run); rfl; rfl; (intro w M; go_simp; (try go_ints); (try simp only [↓IntWalk.iteOmega]); (try with_reducible rfl)); simp only [Act.put, List.setIfInBounds_toArray, List.set_cons_zero, List.set_cons_succ])
  ((with_reducible apply E_run (v := .agg ((ad 1).map n8).toArray)); rfl; rfl; (intro w M; exact run_loadX (n := 20) (M.kept.row hr (by simp)) rfl Salg.underlying45 rfl size45 (by omega) HSE.out); simp only [Act.put, List.setIfInBounds_toArray, List.set_cons_zero, List.set_cons_succ])
  refine E_call rfl Salg.func158 (by kernel_rfl) (by kernel_rfl) (args := [.slice none 0 0]) rfl ?_
  intro w1 K M
  clear K
  refine (norm_num _ 0 _ (nil_num _)).mono ?_
  rintro e w9 ⟨vn, rfl, xHVN, K⟩
  have HVN := hid xHVN
  clear xHVN
  replace M := M.call K
  refine ⟨_, rfl, K.mono (by simp), M, ?_⟩
  clear K
  simp only [Act.put, List.setIfInBounds_toArray, List.set_cons_zero, List.set_cons_succ]
  ((with_reducible apply E_run (v := .agg (frK 2 nilS vn nilS nilS (ad 2) (ad 1)).toArray)); rfl; rfl; (intro w M; obtain ⟨p0, q0, s0, e0⟩ := HVN.out.slice; subst e0; kernel_rfl); simp only [Act.put, List.setIfInBounds_toArray, List.set_cons_zero, List.set_cons_succ])
  refine E_nil ?_
  intro w10 K1 M
  replace HVN := hid (HVN.out.kept K1)
  clear K1
  intro t13 w11 K1 ht13 M
  replace HVN := hid (HVN.out.kept K1)
  clear K1
  simp only [Act.put, List.setIfInBounds_toArray, List.set_cons_zero, List.set_cons_succ]
  refine S_seg 13 14 (by kernel_rfl) (by decide) ?_
  simp only [List.take_succ_cons, List.take_zero, List.drop_zero, List.drop_succ_cons, Nat.sub_zero, Nat.reduceSub]
  have HVN1 := hid HVN.out.one
  have HB13 : t13 ∈ ([] : List Nat) ∨ w8.heap.size ≤ t13 := Or.inr ht13
  go_wp2_with ((with_reducible apply W_storeK (b := t13) (vs := (frK 2 nilS vn nilS nilS (ad 2) (ad 1)).toArray)); rfl; rfl; exact M.r0; exact size142; rfl; exact frK_one rfl HVN1.out rfl rfl; intro w12 K1 hr3; replace M := Mem.callPut (L1 := []) M HB13 K1 hr3; clear K1 hr3; simp only [List.nil_append] at M)
  refine S_done ?_
  clear HVN
  go_wp2_with (first
    | ((with_reducible apply W_stV (b := t13) (o := 0) (v := .int .u8 3)); rfl; rfl; exact rfl; exact M.r0; exact size5; exact Nat.le_of_ble_eq_true (by kernel_rfl); intro wS K hr3; rw [show ((frK 2 nilS vn nilS nilS (ad 2) (ad 1)).toArray).setIfInBounds 0 (.int .u8 3) = (frK 3 nilS vn nilS nilS (ad 2) (ad 1)).toArray from by kernel_rfl] at hr3; replace M := Mem.callPut (L1 := []) M HB13 K hr3; clear K hr3; simp only [List.nil_append] at M)
    | ((with_reducible apply W_loadCell); rfl; exact M.kept.row hr (by simp); exact g5; exact Salg.underlying89; rfl; simp only [Act.put, List.setIfInBounds_toArray, List.set_cons_zero, List.set_cons_succ])
    | ((with_reducible apply W_stV (b := t13) (o := 5) (v := vv)); rfl; rfl; exact hv1; exact M.r0; exact size89; exact Nat.le_of_ble_eq_true (by kernel_rfl); intro wS K hr3; rw [show ((frK 3 nilS vn nilS nilS (ad 2) (ad 1)).toArray).setIfInBounds 5 (vv) = (frK 3 nilS vv nilS nilS (ad 2) (ad 1)).toArray from by kernel_rfl] at hr3; replace M := Mem.callPut (L1 := []) M HB13 K hr3; clear K hr3; simp only [List.nil_append] at M)
    | ((with_reducible apply W_loadX (n := 20) (vs := ((ad 1).map n8).toArray)); rfl; exact M.kept.row hr (by simp); exact Salg.underlying45; rfl; exact size45; omega; exact HSE.out; simp only [Act.put, List.setIfInBounds_toArray, List.set_cons_zero, List.set_cons_succ])
    | ((with_reducible apply W_stP (b := t13) (o := 12) (n := 20) (v := .agg ((ad 1).map n8).toArray) (rs := (frK 3 nilS vv nilS nilS (ad 1) (ad 1)).toArray)); rfl; rfl; exact M.r0; exact size45; kernel_rfl; exact oneL rfl; exact Nat.le_of_ble_eq_true (by kernel_rfl); kernel_rfl; intro wS K hr3; replace M := Mem.callPut (L1 := []) M HB13 K hr3; clear K hr3; simp only [List.nil_append] at M)
    | ((with_reducible apply W_loadX (n := 20) (vs := ((ad 240).map n8).toArray)); rfl; exact M.kept.row hr (by simp); exact Salg.underlying45; rfl; exact size45; omega; exact HCA.out; simp only [Act.put, List.setIfInBounds_toArray, List.set_cons_zero, List.set_cons_succ])
    | ((with_reducible apply W_stP (b := t13) (o := 32) (n := 20) (v := .agg ((ad 240).map n8).toArray) (rs := (frK 3 nilS vv nilS nilS (ad 1) (ad 240)).toArray)); rfl; rfl; exact M.r0; exact size45; kernel_rfl; exact oneL rfl; exact Nat.le_of_ble_eq_true (by kernel_rfl); kernel_rfl; intro wS K hr3; replace M := Mem.callPut (L1 := []) M HB13 K hr3; clear K hr3; simp only [List.nil_append] at M)
    | ((with_reducible apply W_loadCell); rfl; exact M.kept.row hr (by simp); exact h5; exact Salg.underlying89; rfl; simp only [Act.put, List.setIfInBounds_toArray, List.set_cons_zero, List.set_cons_succ]))
  refine (sentGas_any gv u0 G A _ (HP.out.g.kept M.kept) (N0.out.kept M.kept) hG).mono ?_
  rintro e w13 ⟨sg, rfl, xHSG, K⟩
  have HSG := hid xHSG
  replace M := M.call K
  clear K xHSG
  go_wp2_with ((with_reducible apply W_loadCell); rfl; exact M.kept.row hr (by simp); exact h5; exact Salg.underlying89; rfl; simp only [Act.put, List.setIfInBounds_toArray, List.set_cons_zero, List.set_cons_succ])
  refine (less_any gv sg G _ _ (HP.out.g.kept M.kept) HSG.out (by omega) (by omega)).mono ?_
  rintro e w14 ⟨lg, rfl, xHLG, K⟩
  have HLG := hid xHLG
  replace HSG := hid (HSG.out.kept K)
  replace M := M.call K
  clear K xHLG
  have hrow := M.kept.row hr (by simp)
  have h13f : t13 ≠ fb := by have := lt_of_row hr; omega
  have h13w : w.heap.size ≤ t13 := Nat.le_trans HK.out.size ht13
  have hsg1 := HSG.out.one
  go_wp2_with (first
    | ((with_reducible apply W_stV (b := fb) (o := 4) (v := lg)); rfl; rfl; exact HLG.out.one; exact hrow; exact size89; exact z4; intro w15a K1 hr15)
    | ((with_reducible apply W_stV (b := t13) (o := 4) (v := sg)); rfl; rfl; exact hsg1; exact K1.row M.r0 (by simpa using h13f); exact size89; exact Nat.le_of_ble_eq_true (by kernel_rfl); intro w15 K2 hr16; rw [show ((frK 3 nilS vv nilS nilS (ad 1) (ad 240)).toArray).setIfInBounds 4 sg = (frK 3 sg vv nilS nilS (ad 1) (ad 240)).toArray from by kernel_rfl] at hr16))
  have NB4 := hid (frK_nb 3 nilS vv nilS nilS (ad 1) (ad 240))
  have h13a := K1.row M.r0 (by simpa using h13f)
  have HNB2 := hid (not_bytes_at (tc := 142) (cs := fs.setIfInBounds 4 lg) (i := 8) ((Array.getElem?_setIfInBounds_ne (by decide)).trans h7))
  replace HP := hid (((HP.out.kept M.kept).keptC K1 hrow HNB.out (by decide)).keptC K2 h13a NB4.out (by decide))
  replace N2 := hid (((N2.out.kept M.kept).keptC K1 hrow HNB.out).keptC K2 h13a NB4.out)
  replace N3 := hid (((N3.out.kept M.kept).keptC K1 hrow HNB.out).keptC K2 h13a NB4.out)
  replace N4 := hid (((N4.out.kept M.kept).keptC K1 hrow HNB.out).keptC K2 h13a NB4.out)
  replace N5 := hid (((N5.out.kept M.kept).keptC K1 hrow HNB.out).keptC K2 h13a NB4.out)
  replace HSG := hid ((HSG.out.keptC K1 hrow HNB.out).keptC K2 h13a NB4.out)
  replace HLG := hid ((HLG.out.keptC K1 hrow HNB.out).keptC K2 h13a NB4.out)
  replace HC := hid (((HC.out.kept M.kept).keptC K1 hrow HNB.out).keptC K2 h13a NB4.out)
  have HD2 : Hid (∀ v ds, NatV w v ds → NatV w15 v ds) := fun v ds h => (((HD.out v ds h).kept M.kept).keptC K1 hrow HNB.out).keptC K2 h13a NB4.out
  have HK1 : Hid (Kept [t13, c, fb] w w15) := (HK.out.mono (by intro k hk; simp at hk ⊢; omega)).trans ((M.kept.mono (by simp)).trans ((K1.mono (by simp)).trans (K2.mono (by simp))))
  replace H10 := hid (K2.row (K1.row M.r1 (by simpa using h10f)) (by simpa using fun h => M.ne01 h.symm))
  have H13 := hid hr16
  have HB13 : t13 ∈ [t13] ∨ w15.heap.size ≤ t13 := Or.inl (by simp)
  have hne : t13 ≠ t10 := M.ne01
  have NB13 := hid (frK_nb 3 sg vv nilS nilS (ad 1) (ad 240))
  have hf13 : fb ∉ [t13] := by simp; omega
  replace hr := K2.row hr15 hf13
  clear K1 K2 M hrow HD h13a NB4 HK hr15 hr16
  have M : Mem w15 [t13] [(t13, .cells (frK 3 sg vv nilS nilS (ad 1) (ad 240)).toArray 142 (0, 0)), (t10, .cells ((ad 2).map n8).toArray 45 (0, 0))] w15 := ((Mem.start w15 [t13]).add H10.out (by simp)).add H13.out (by simpa using hne)
  have h7' : (fs.setIfInBounds 4 lg)[0 + 8]? = some (.slice p xs.length cp) := (Array.getElem?_setIfInBounds_ne (by decide)).trans h7
  have HSE2 : Hid ((fs.setIfInBounds 4 lg).extract 12 (12 + 20) = ((ad 1).map n8).toArray) := by
    have e := ext_same (fs := fs.setIfInBounds 4 lg) (fs0 := fs) (a := 12) (n := 20) (by simp) fun k k1 k2 => Array.getElem?_setIfInBounds_ne (by omega)
    exact e.trans HSE.out
  refine (isZero_lit (.slice none 0 0) 0 true (by decide) _ (nil_num _)).mono ?_
  rintro e w16 ⟨rfl, K⟩
  replace M := M.call K
  clear K
  go_wp2_with fail
  obtain ⟨nv, bv, cu, sl, b0, hacc⟩ := balance_C c _ _ _ _ _ _ _ _ (HC.out.keptC M.kept H13.out NB13.out)
  have HB0 := hid b0
  have HAC := hid hacc
  clear b0 hacc
  obtain ⟨vz, wz, mw, rv, lim, gv0, pr, tv, c1, _⟩ := HC.out.keptC M.kept H13.out NB13.out
  have MM := M
  replace M := M.anew []
  refine S_region (by kernel_rfl) ?_
  replace HB0 := hid (HB0.out.kept (Kept.refl [] _).drew)
  refine E_stage 0 21 [0, 1, 2, 3, 4, 5, 6, 7, 8, 9, 10, 11, 12, 13, 14, 17, 15, 16, 18, 19, 20] (by kernel_rfl) M.drew ?_
  clear M
  simp only [List.filterMap_cons, List.filterMap_nil, List.getElem?_cons_zero, List.getElem?_cons_succ]
  ((with_reducible apply E_run); rfl; rfl; (intro w M; go_simp; (try go_ints); (try simp only [↓IntWalk.iteOmega]); (try with_reducible rfl)); simp only [Act.put, List.setIfInBounds_toArray, List.set_cons_zero, List.set_cons_succ])
  ((with_reducible apply E_run); rfl; rfl; (intro w M; go_simp; (try go_ints); (try simp only [↓IntWalk.iteOmega]); (try with_reducible rfl)); simp only [Act.put, List.setIfInBounds_toArray, List.set_cons_zero, List.set_cons_succ])
  ((with_reducible apply E_run); rfl; rfl; (intro w M; go_simp; (try go_ints); (try simp only [↓IntWalk.iteOmega]); (try with_reducible rfl)); simp only [Act.put, List.setIfInBounds_toArray, List.set_cons_zero, List.set_cons_succ])
  ((with_reducible apply E_run); rfl; rfl; (intro w M; exact run_loadCell (M.kept.row c1 (by simp)) rfl (show (chR vz wz mw rv (.slice (some ⟨fb, 0, none⟩) 1 cap) lim gv0 pr tv)[9]? = some (.slice (some ⟨fb, 0, none⟩) 1 cap) by kernel_rfl) Salg.underlying115 rfl); simp only [Act.put, List.setIfInBounds_toArray, List.set_cons_zero, List.set_cons_succ])
  ((with_reducible apply E_run); rfl; rfl; (intro w M; go_simp; (try go_ints); (try simp only [↓IntWalk.iteOmega]); (try with_reducible rfl)); simp only [Act.put, List.setIfInBounds_toArray, List.set_cons_zero, List.set_cons_succ])
  ((with_reducible apply E_run); rfl; rfl; (intro w M; go_simp; (try go_ints); (try simp only [↓IntWalk.iteOmega]); (try with_reducible rfl)); simp only [Act.put, List.setIfInBounds_toArray, List.set_cons_zero, List.set_cons_succ])
  ((with_reducible apply E_run); rfl; rfl; (intro w M; go_simp; (try go_ints); (try simp only [↓IntWalk.iteOmega]); (try with_reducible rfl)); simp only [Act.put, List.setIfInBounds_toArray, List.set_cons_zero, List.set_cons_succ])
  ((with_reducible apply E_run); rfl; rfl; (intro w M; go_simp; (try go_ints); (try simp only [↓IntWalk.iteOmega]); (try with_reducible rfl)); simp only [Act.put, List.setIfInBounds_toArray, List.set_cons_zero, List.set_cons_succ])
  ((with_reducible apply E_run); rfl; rfl; (intro w M; go_simp; (try go_ints); (try simp only [↓IntWalk.iteOmega]); (try with_reducible rfl)); simp only [Act.put, List.setIfInBounds_toArray, List.set_cons_zero, List.set_cons_succ])
  ((with_reducible apply E_run); rfl; rfl; (intro w M; go_simp; (try go_ints); (try simp only [↓IntWalk.iteOmega]); (try with_reducible rfl)); simp only [Act.put, List.setIfInBounds_toArray, List.set_cons_zero, List.set_cons_succ])
  ((with_reducible apply E_run); rfl; rfl; (intro w M; go_simp; (try go_ints); (try simp only [↓IntWalk.iteOmega]); (try with_reducible rfl)); simp only [Act.put, List.setIfInBounds_toArray, List.set_cons_zero, List.set_cons_succ])
  ((with_reducible apply E_run); rfl; rfl; (intro w M; go_simp; (try go_ints); (try simp only [↓IntWalk.iteOmega]); (try with_reducible rfl)); simp only [Act.put, List.setIfInBounds_toArray, List.set_cons_zero, List.set_cons_succ])
  ((with_reducible apply E_run); rfl; rfl; (intro w M; go_simp; (try go_ints); (try simp only [↓IntWalk.iteOmega]); (try with_reducible rfl)); simp only [Act.put, List.setIfInBounds_toArray, List.set_cons_zero, List.set_cons_succ])
  ((with_reducible apply E_run); rfl; rfl; (intro w M; go_simp; (try go_ints); (try simp only [↓IntWalk.iteOmega]); (try with_reducible rfl)); simp only [Act.put, List.setIfInBounds_toArray, List.set_cons_zero, List.set_cons_succ])
  ((with_reducible apply E_run (v := .agg ((ad 1).map n8).toArray)); rfl; rfl; (intro w M; exact run_loadX (n := 20) (M.kept.row (MM.kept.row hr hf13) (by simp)) rfl Salg.underlying45 rfl size45 (by simp; omega) HSE2.out); simp only [Act.put, List.setIfInBounds_toArray, List.set_cons_zero, List.set_cons_succ])
  ((with_reducible apply E_run); rfl; rfl; (intro w M; go_simp; (try go_ints); (try simp only [↓IntWalk.iteOmega]); (try with_reducible rfl)); simp only [Act.put, List.setIfInBounds_toArray, List.set_cons_zero, List.set_cons_succ])
  refine E_call rfl Salg.func85 (by kernel_rfl) (by kernel_rfl) (args := [.pointer (some ⟨c, 0, none⟩), A8 (ad 1)]) rfl ?_
  intro w1 K M
  replace HB0 := hid (HB0.out.kept K)
  clear K
  refine (HAC.out _ M.kept).mono ?_
  rintro e w17 ⟨rfl, K⟩
  replace HB0 := hid (HB0.out.kept K)
  replace M := M.call K
  refine ⟨_, rfl, trivial, M, ?_⟩
  clear K
  simp only [Act.put, List.setIfInBounds_toArray, List.set_cons_zero, List.set_cons_succ]
  ((with_reducible apply E_run (v := bv)); rfl; rfl; (intro w M; kernel_rfl); simp only [Act.put, List.setIfInBounds_toArray, List.set_cons_zero, List.set_cons_succ])
  refine E_call rfl Salg.func72 (by kernel_rfl) (by kernel_rfl) (args := [bv, .slice none 0 0]) rfl ?_
  intro w1 K M
  replace HB0 := hid (HB0.out.kept K)
  clear K
  refine (cmp_lit bv (.slice none 0 0) 0 0 0 (by decide) _ HB0.out (nil_num _)).mono ?_
  rintro e w18 ⟨rfl, K⟩
  replace HB0 := hid (HB0.out.kept K)
  replace M := M.call K
  refine ⟨_, rfl, trivial, M, ?_⟩
  clear K
  simp only [Act.put, List.setIfInBounds_toArray, List.set_cons_zero, List.set_cons_succ]
  ((with_reducible apply E_run); rfl; rfl; (intro w M; go_simp; (try go_ints); (try simp only [↓IntWalk.iteOmega]); (try with_reducible rfl)); simp only [Act.put, List.setIfInBounds_toArray, List.set_cons_zero, List.set_cons_succ])
  ((with_reducible apply E_run); rfl; rfl; (intro w M; go_simp; (try go_ints); (try simp only [↓IntWalk.iteOmega]); (try with_reducible rfl)); simp only [Act.put, List.setIfInBounds_toArray, List.set_cons_zero, List.set_cons_succ])
  refine E_nil ?_
  intro w19 K M
  clear K
  refine S_done ?_
  replace M := MM.call M.kept
  clear MM HAC HB0 c1
  go_wp2_with fail
  refine (arg_q fb 0 (fs.setIfInBounds 4 lg) _ u2 xs 2 _ (M.kept.row hr hf13) h7' ((HP.out.keptC M.kept H13.out NB13.out (by decide)).s) (by omega) hu2 (by omega)).mono ?_
  rintro e w20 ⟨rfl, K⟩
  replace M := M.call K
  clear K
  go_wp2_with fail
  refine (arg_q fb 0 (fs.setIfInBounds 4 lg) _ u3 xs 3 _ (M.kept.row hr hf13) h7' ((HP.out.keptC M.kept H13.out NB13.out (by decide)).s) (by omega) hu3 (by omega)).mono ?_
  rintro e w21 ⟨rfl, K⟩
  replace M := M.call K
  clear K
  go_wp2_with fail
  refine (read_zero _ u2 u3 _ (N3.out.keptC M.kept H13.out NB13.out)).mono ?_
  rintro e w22 ⟨rfl, K⟩
  replace M := M.call K
  clear K
  go_wp2_with (first
    | ((with_reducible apply W_stV (b := t13) (o := 11) (v := nilS)); rfl; rfl; exact rfl; exact M.r0; exact size40; exact Nat.le_of_ble_eq_true (by kernel_rfl); intro wS K hr3; rw [show ((frK 3 sg vv nilS nilS (ad 1) (ad 240)).toArray).setIfInBounds 11 (nilS) = (frK 3 sg vv nilS nilS (ad 1) (ad 240)).toArray from by kernel_rfl] at hr3; replace M := Mem.callPut (L1 := []) M HB13 K hr3; clear K hr3; simp only [List.nil_append] at M)
    | ((with_reducible apply W_loadAll); rfl; exact M.r1; exact Salg.underlying45; rfl; exact size45; simp only [Act.put, List.setIfInBounds_toArray, List.set_cons_zero, List.set_cons_succ]))
  refine (nativeAt_two _).mono ?_
  rintro e w23 ⟨rfl, K⟩
  replace M := M.call K
  clear K
  go_wp2_with (first
    | ((with_reducible apply W_stV (b := t13) (o := 1) (v := .int .u8 0)); rfl; rfl; exact rfl; exact M.r0; exact size5; exact Nat.le_of_ble_eq_true (by kernel_rfl); intro wS K hr3; rw [show ((frK 3 sg vv nilS nilS (ad 1) (ad 240)).toArray).setIfInBounds 1 (.int .u8 0) = (frK 3 sg vv nilS nilS (ad 1) (ad 240)).toArray from by kernel_rfl] at hr3; replace M := Mem.callPut (L1 := []) M HB13 K hr3; clear K hr3; simp only [List.nil_append] at M)
    | ((with_reducible apply W_loadCell); rfl; exact M.r0; exact (show (frK 3 sg vv nilS nilS (ad 1) (ad 240)).toArray[1]? = some (.int .u8 0) by kernel_rfl); exact Salg.underlying5; rfl; simp only [Act.put, List.setIfInBounds_toArray, List.set_cons_zero, List.set_cons_succ]))
  obtain ⟨nv2, bv2, cu0, b0, hacc⟩ := code_C c _ _ _ _ _ _ _ _ (HC.out.keptC M.kept H13.out NB13.out)
  have HB0 := hid b0
  have HAC := hid hacc
  clear b0 hacc
  have MM := M
  have L10 := hid M.r1
  replace M := M.anew []
  refine S_region (by kernel_rfl) ?_
  replace HB0 := hid (HB0.out.kept (Kept.refl [] _).drew)
  refine E_stage 0 7 [0, 1, 2, 3, 4, 5, 6] (by kernel_rfl) M.drew ?_
  clear M
  simp only [List.filterMap_cons, List.filterMap_nil, List.getElem?_cons_zero, List.getElem?_cons_succ]
  ((with_reducible apply E_run); rfl; rfl; (intro w M; go_simp; (try go_ints); (try simp only [↓IntWalk.iteOmega]); (try with_reducible rfl)); simp only [Act.put, List.setIfInBounds_toArray, List.set_cons_zero, List.set_cons_succ])
  ((with_reducible apply E_run); rfl; rfl; (intro w M; go_simp; (try go_ints); (try simp only [↓IntWalk.iteOmega]); (try with_reducible rfl)); simp only [Act.put, List.setIfInBounds_toArray, List.set_cons_zero, List.set_cons_succ])
  ((with_reducible apply E_run); rfl; rfl; (intro w M; go_simp; (try go_ints); (try simp only [↓IntWalk.iteOmega]); (try with_reducible rfl)); simp only [Act.put, List.setIfInBounds_toArray, List.set_cons_zero, List.set_cons_succ])
  ((with_reducible apply E_run); rfl; rfl; (intro w M; exact run_loadAll M.r1 rfl Salg.underlying45 rfl size45); simp only [Act.put, List.setIfInBounds_toArray, List.set_cons_zero, List.set_cons_succ])
  refine E_call rfl Salg.func85 (by kernel_rfl) (by kernel_rfl) (args := [.pointer (some ⟨c, 0, none⟩), A8 (ad 2)]) rfl ?_
  intro w1 K M
  replace HB0 := hid (HB0.out.kept K)
  clear K
  refine (HAC.out _ M.kept).mono ?_
  rintro e w24 ⟨rfl, K⟩
  replace HB0 := hid (HB0.out.kept K)
  replace M := M.call K
  refine ⟨_, rfl, trivial, M, ?_⟩
  clear K
  simp only [Act.put, List.setIfInBounds_toArray, List.set_cons_zero, List.set_cons_succ]
  ((with_reducible apply E_run (v := cu0)); rfl; rfl; (intro w M; kernel_rfl); simp only [Act.put, List.setIfInBounds_toArray, List.set_cons_zero, List.set_cons_succ])
  refine E_call rfl Salg.func96 (by kernel_rfl) (by kernel_rfl) (args := [cu0]) rfl ?_
  intro w1 K M
  replace HB0 := hid (HB0.out.kept K)
  clear K
  refine (bytesOf_all cu0 ds2 _ HB0.out).mono ?_
  rintro e w25 ⟨cu2, rfl, xHCU, K⟩
  have HCU := hid xHCU
  clear xHCU
  replace HB0 := hid (HB0.out.kept K)
  replace M := M.call K
  refine ⟨_, rfl, trivial, M, ?_⟩
  clear K
  simp only [Act.put, List.setIfInBounds_toArray, List.set_cons_zero, List.set_cons_succ]
  refine E_nil ?_
  intro w26 K M
  replace HCU := hid (HCU.out.kept K)
  clear K
  replace M := MM.call M.kept
  clear MM HAC HB0 L10
  have hcu1 := HCU.out.one
  refine S_seg 7 9 (by kernel_rfl) (by decide) ?_
  simp only [List.take_succ_cons, List.take_zero, List.drop_zero, List.drop_succ_cons, Nat.sub_zero, Nat.reduceSub]
  have NB5 := NB13
  go_wp2_with ((with_reducible apply W_stV (b := t13) (o := 10) (v := cu2)); rfl; rfl; exact hcu1; exact M.r0; exact size40; exact Nat.le_of_ble_eq_true (by kernel_rfl); intro wS K1 hr3; replace HCU := hid (HCU.out.keptC K1 M.r0 NB5.out); rw [show ((frK 3 sg vv nilS nilS (ad 1) (ad 240)).toArray).setIfInBounds 10 cu2 = (frK 3 sg vv cu2 nilS (ad 1) (ad 240)).toArray from by kernel_rfl] at hr3; replace M := Mem.callPut (L1 := []) M HB13 K1 hr3; clear K1 hr3; simp only [List.nil_append] at M)
  refine S_done ?_
  go_wp2_with fail
  refine (arg_q fb 0 (fs.setIfInBounds 4 lg) _ u4 xs 4 _ (M.kept.row hr hf13) h7' ((HP.out.keptC M.kept H13.out NB13.out (by decide)).s) (by omega) hu4 (by omega)).mono ?_
  rintro e w27 ⟨rfl, K⟩
  replace HCU := hid (HCU.out.kept K)
  replace M := M.call K
  clear K
  go_wp2_with fail
  refine (arg_q fb 0 (fs.setIfInBounds 4 lg) _ u5 xs 5 _ (M.kept.row hr hf13) h7' ((HP.out.keptC M.kept H13.out NB13.out (by decide)).s) (by omega) hu5 (by omega)).mono ?_
  rintro e w28 ⟨rfl, K⟩
  replace HCU := hid (HCU.out.kept K)
  replace M := M.call K
  clear K
  go_wp2_with fail
  have hrow := M.kept.row hr hf13
  refine (wait_zero fb 0 6 0 (fs.setIfInBounds 4 lg) _ u4 u5 xs _ hrow h7' ((HP.out.keptC M.kept H13.out NB13.out (by decide)).s) (N4.out.keptC M.kept H13.out NB13.out) (N5.out.keptC M.kept H13.out NB13.out) (by omega) (by omega)).mono ?_
  rintro e w29 ⟨r29, p', r6, r7, rfl, K1, hr29, x1, x2⟩
  have HSV := hid x1
  have HR7 := hid x2
  replace HP := hid ((HP.out.keptC M.kept H13.out NB13.out (by decide)).keptC K1 hrow HNB2.out (by decide))
  replace HLG := hid ((HLG.out.keptC M.kept H13.out NB13.out).keptC K1 hrow HNB2.out)
  replace HSG := hid ((HSG.out.keptC M.kept H13.out NB13.out).keptC K1 hrow HNB2.out)
  replace HCU := hid (HCU.out.keptC K1 hrow HNB2.out)
  replace HC := hid ((HC.out.keptC M.kept H13.out NB13.out).keptC K1 hrow HNB2.out)
  have HD3 : Hid (∀ v ds, NatV w v ds → NatV w29 v ds) := fun v ds h => ((HD2.out v ds h).keptC M.kept H13.out NB13.out).keptC K1 hrow HNB2.out
  have HK2 : Hid (Kept [t13, c, fb] w w29) := HK1.out.trans ((M.kept.mono (by intro k hk; simp at hk ⊢; omega)).trans (K1.mono (by simp)))
  have H13' := hid (K1.row M.r0 (by simpa using h13f))
  clear x1 x2 K1 M HK1 HD2 hrow hr
  obtain ⟨fs2, hfs2⟩ : ∃ fs2, fs2 = ((((fs.setIfInBounds 4 lg).setIfInBounds (0 + 8) (.slice p' (xs.length - 6) (xs.length - 6))).setIfInBounds (0 + 6) r6).setIfInBounds (0 + 7) r7).setIfInBounds (0 + 6) nilS := ⟨_, rfl⟩
  rw [← hfs2] at hr29
  have HFS2 := hid hfs2
  clear hfs2
  have hs2 : fs2.size = cap * 60 := by rw [HFS2.out]; simp only [Array.size_setIfInBounds]; exact hz
  have HNB3 := hid (not_bytes_at (tc := 142) (cs := fs2) (i := 8) (p := p') (n := xs.length - 6) (m := xs.length - 6) (by rw [HFS2.out, Array.getElem?_setIfInBounds_ne (by decide), Array.getElem?_setIfInBounds_ne (by decide), Array.getElem?_setIfInBounds_ne (by decide), Array.getElem?_setIfInBounds_self_of_lt (by simp; omega)]))
  go_wp2_with ((with_reducible apply W_loadAll); rfl; exact H13'.out; exact Salg.underlying142; rfl; exact (by kernel_rfl); simp only [Act.put, List.setIfInBounds_toArray, List.set_cons_zero, List.set_cons_succ])
  refine (enter_D c K base fb cap fs2 _ so R ds1 ds2 sg vv cu2 nilS _ HC.out hso hl0 hl2 hr29 HNB3.out hs2 hcap hc1 hbase hsg1 hv1 hcu1 rfl).mono ?_
  rintro e w30 ⟨r30, fb', cap', cur, a0, a1, a2, a3, rfl, y1, y2, y3, y4, y5, y6, y6b, y6c, y7, y8, y9, ya, yk⟩
  have Y1 := hid y1
  have Y2 := hid y2
  have Y4 := hid y4
  have Y5 := hid y5
  have Y7 := hid y7
  have Y8 := hid y8
  have Y9 := hid y9
  have YA := hid ya
  have YK := hid yk
  clear y1 y2 y4 y5 y7 y8 y9 ya yk HC
  go_wp2_with fail
  go_end0
  have e2 : ∀ k, k ≠ 4 → k ≠ 6 → k ≠ 7 → k ≠ 8 → fs2[k]? = fs[k]? := by
    intro k k4 k6 k7 k8
    rw [HFS2.out, Array.getElem?_setIfInBounds_ne (by omega), Array.getElem?_setIfInBounds_ne (by omega), Array.getElem?_setIfInBounds_ne (by omega), Array.getElem?_setIfInBounds_ne (by omega), Array.getElem?_setIfInBounds_ne (by omega)]
  have hnl : xs.length - 6 = ns.length := by omega
  have HNS : NumsV w29 (xs.take (xs.length - 6)) ns := by
    have e1 := HP.out.n.take ns.length
    rw [List.take_left] at e1
    rw [hnl]
    exact e1
  have hK30 : Kept [c, fb] w w30 := by
    have := HK2.out
    refine ⟨YK.out.os.trans this.os, YK.out.tape.trans this.tape, YK.out.output.trans this.output, Nat.le_trans this.size YK.out.size, fun k hk hx => ?_⟩
    rw [YK.out.block k (Nat.lt_of_lt_of_le hk this.size) hx]
    refine this.block k hk ?_
    simp at hx ⊢
    refine ⟨?_, hx⟩
    rintro rfl
    have := h13w
    omega
  refine ⟨_, fb', cap', cur, pv, lg, .slice p' (xs.length - 6) (xs.length - 6), r7, cu2, sg, a0, a1, a2, a3, xs.take (xs.length - 6), rfl, Y1.out, Y2.out, y3, ?_, ?_, ?_, ?_, ?_, ?_, ?_, ⟨Y8.out _ _ HP.out.p, Y8.out _ _ HLG.out, YA.out _ _ HSV.out, ⟨HNS.1, fun k v n i1 i2 => Y8.out _ _ (HNS.2 k v n i1 i2)⟩⟩, Y8.out _ _ HR7.out, Y5.out, Y8.out _ _ HSG.out, Y9.out _ _ HCU.out, y6, y6b, y6c, Y7.out, fun v ds h => Y9.out v ds (HD3.out v ds h), hK30⟩
  · intro k k60 k3 k4 k6 k7 k8 k9
    rw [Y4.out k k60, e2 k k4 k6 k7 k8]
    exact HX2.out k (by omega) (by omega) (by omega) (by omega)
  · rw [Y4.out 3 (by decide), e2 3 (by decide) (by decide) (by decide) (by decide)]
    exact h3
  · rw [Y4.out 4 (by decide), HFS2.out, Array.getElem?_setIfInBounds_ne (by decide), Array.getElem?_setIfInBounds_ne (by decide), Array.getElem?_setIfInBounds_ne (by decide), Array.getElem?_setIfInBounds_ne (by decide), Array.getElem?_setIfInBounds_self_of_lt z4]
  · rw [Y4.out 6 (by decide), HFS2.out, Array.getElem?_setIfInBounds_self_of_lt (by simp; omega)]
  · rw [Y4.out 7 (by decide), HFS2.out, Array.getElem?_setIfInBounds_ne (by decide), Array.getElem?_setIfInBounds_self_of_lt (by simp; omega)]
  · rw [Y4.out 8 (by decide), HFS2.out, Array.getElem?_setIfInBounds_ne (by decide), Array.getElem?_setIfInBounds_ne (by decide), Array.getElem?_setIfInBounds_ne (by decide), Array.getElem?_setIfInBounds_self_of_lt (by simp; omega)]
  · rw [Y4.out 9 (by decide), e2 9 (by decide) (by decide) (by decide) (by decide)]
    exact ha

set_option maxHeartbeats 4000000 in
set_option maxRecDepth 100000 in
theorem enters_D (c fb q : Nat) (cs : Array Value) (w : World) (P2 : World → Prop) (hc : w.heap[c]? = some (.cells cs 119 (0, 0))) (hsz : 10 < cs.size)
    (hE : ∀ w', Kept [c] w w' → w'.heap[c]? = some (.cells (cs.setIfInBounds 10 nilS) 119 (0, 0)) → Calls Salg.prog 194 #[.pointer (some ⟨c, 0, none⟩), .pointer (some ⟨fb, q, none⟩), .int .u8 244] w' fun e w'' => ∃ r, e = .returned r ∧ P2 w'') :
    Calls Salg.prog 119 #[.pointer (some ⟨c, 0, none⟩), .pointer (some ⟨fb, q, none⟩), .int .u8 244] w fun e w' => ∃ r, e = .returned r ∧ P2 w' := by
  have HE := hid hE
  clear hE
  go_enter Salg.func119, Salg.ntmps119
  go_wp2_with ((with_reducible apply W_stV (b := c) (o := 10) (v := nilS)); rfl; rfl; rfl; exact hc; exact size40; exact hsz; intro w1 K1 hr1)
  have HK := hid K1
  clear K1
  refine (HE.out _ HK.out hr1).mono ?_
  rintro e w2 ⟨r, rfl, x⟩
  have HX := hid x
  clear x
  go_wp2_with fail
  go_end0
  exact ⟨_, rfl, HX.out⟩
end Go.Proofs.YgcsalGreat

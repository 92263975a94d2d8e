/-
  The step CREATE in a run of Context, and the run of kind 6.
-/
import Derived.Test.YgcsalGreatCx31
set_option linter.unusedSimpArgs false
set_option linter.unusedVariables false
namespace Go.Own
open Go.Proofs.YgcsalGreat
/-- What is known where the code of a CREATE begins. -/
structure CreY (w : World) (c fb cap : Nat) (E : XEnv) (cur fs0 : Array Value) (pv gv sv r7 mv cw sg vn a0 a1 a3 a6 : Value) (m G1 G2 V : Nat) (la : List (List Nat)) (D : List AD) : Prop where
  mdo : E.md.oneCell' = true
  ch : ChY w c E (.slice (some ⟨fb, 0, none⟩) 2 cap) nilS la
  row : w.heap[fb]? = some (.cells cur 142 (0, 0))
  par : ∀ k, k < 60 → k ≠ 3 → k ≠ 4 → k ≠ 6 → k ≠ 7 → k ≠ 8 → k ≠ 9 → cur[k]? = fs0[k]?
  c3 : cur[0 + 3]? = some pv
  c4 : cur[0 + 4]? = some gv
  c7 : cur[0 + 7]? = some r7
  c8 : cur[0 + 8]? = some sv
  c9 : cur[0 + 9]? = some mv
  c6 : ∃ r6 : Value, cur[0 + 6]? = some r6 ∧ r6.oneCell' = true
  parts : PartsV w pv gv sv [] m G1 []
  n7 : NumV w r7 0
  inn : ∀ k, k < 60 → cur[60 + k]? = (frG 5 false sg vn cw nilS ha6 (ad 1) (wrow5 a0 a1 a3 a6))[k]?
  nsg : NumV w sg G2
  ncw : NatV w cw probeL
  nvn : NumV w vn V
  size : cur.size = cap * 60
  capM : cap ≤ maxLen
  cap2 : 2 ≤ cap
  one : a0.oneCell' = true ∧ a1.oneCell' = true ∧ a3.oneCell' = true ∧ a6.oneCell' = true
  acc : AccD D w E.vz
end Go.Own
namespace Go.Proofs.YgcsalGreat
open Go.RowKit Go.Own

set_option maxHeartbeats 4000000 in
set_option maxRecDepth 100000 in
theorem entersY_CR (c fb q : Nat) (cs : Array Value) (w : World) (P2 : World → Prop) (hc : w.heap[c]? = some (.cells cs 119 (0, 0))) (hsz : 10 < cs.size)
    (hE : ∀ w', Kept [c] w w' → w'.heap[c]? = some (.cells (cs.setIfInBounds 10 nilS) 119 (0, 0)) → Calls Salg.prog 193 #[.pointer (some ⟨c, 0, none⟩), .pointer (some ⟨fb, q, none⟩), .int .u8 240] w' fun e w'' => ∃ r, e = .returned r ∧ P2 w'') :
    Calls Salg.prog 119 #[.pointer (some ⟨c, 0, none⟩), .pointer (some ⟨fb, q, none⟩), .int .u8 240] w fun e w' => ∃ r, e = .returned r ∧ P2 w' := by
  have HE := hid hE
  clear hE
  go_enter Salg.func119, Salg.ntmps119
  go_wp2_with ((with_reducible apply W_stV (b := c) (o := 10) (v := nilS)); rfl; rfl; rfl; exact hc; exact size40; exact hsz; intro w1 K1 hr1)
  have HK := hid K1
  clear K1
  refine (HE.out _ HK.out hr1).mono ?_
  rintro e w2 ⟨r, rfl, x⟩
  have HX := hid x
  clear x
  go_wp2_with fail
  go_end0
  exact ⟨_, rfl, HX.out⟩
theorem stepY_create1_0 {wB : World} {c fbB : Nat} {E : XEnv} {rr fb cap : Nat} {fs0 : Array Value} {m G : Nat} {mem : List Nat} {rt : Value} {rd : List Nat} {la : List (List Nat)} {w : World} {cv : Value} {ds : List Nat} (V : Nat) (D : List AD) (da ds0 d2 : AD) (hE : StF wB c fbB E rr fb 0 1 cap fs0 m G [19, 13, V] mem 1 rt rd la w) (hH : Hard [c, fbB] wB) (hcv : NatV wB cv ds) (hfc : FrB fs0 0 false cv) (hm : ds[m]? = some 240) (hl : ds.length ≤ 1000) (hm1 : m ≤ 900) (hkG : 32002 ≤ G) (hG : G < 1000000) (hcut : cutB mem 13 19 = probeL) (hse : fs0.extract (0 + 12) (0 + 12 + 20) = ((ad 1).map n8).toArray) (hA : AccD D wB E.vz) (hda : D.find? (fun x => x.adr == ad 1) = some da) (hN1' : da.N = 1) (hB : da.B < 256 ^ 100) (hVB : V ≤ da.B) (hdn : (dPut ⟨ad 1, 1 + 1, da.B, da.ds⟩ false D).find? (fun x => x.adr == ha6) = none) (hds : (dPut ⟨ha6, 1, 0, []⟩ false (dPut ⟨ad 1, 1 + 1, da.B, da.ds⟩ false D)).find? (fun x => x.adr == ad 1) = some ds0) (hsB : ds0.B < 256 ^ 100) (hsV : V ≤ ds0.B) (hl0 : 0 < D.length) (hlD : D.length ≤ 15) (hl1 : (dPut ⟨ad 1, 1 + 1, da.B, da.ds⟩ false D).length ≤ 15) (h01 : 0 < (dPut ⟨ad 1, 1 + 1, da.B, da.ds⟩ false D).length) (hlN : (dPut ⟨ha6, 1, 0, []⟩ false (dPut ⟨ad 1, 1 + 1, da.B, da.ds⟩ false D)).length ≤ 15) (hla : la.length ≤ 15) (hmd : E.md = nilS) (hsz : fs0.size = cap * 60) (hcap : cap ≤ maxLen) (hc1 : 1 ≤ cap) (hV0 : V = 0) :
    Calls Salg.prog 27 #[.pointer (some ⟨c, 0, none⟩)] w fun e w' => e = .returned (.bool true) ∧ ∃ (fb' cap' : Nat) (cur : Array Value) (pv gv sv r7 mv cw sg vn a0 a1 a3 a6 vz' md : Value), CreY w' c fb' cap' { E with vz := vz', md := md } cur fs0 pv gv sv r7 mv cw sg vn a0 a1 a3 a6 m ((G - 32002) - min (G - 32002) ((G - 32002) - (G - 32002) / 64)) (min (G - 32002) ((G - 32002) - (G - 32002) / 64)) V (adWith la ha6) (dPut ⟨ha6, 1, 0, []⟩ false (dPut ⟨ad 1, 1 + 1, da.B, da.ds⟩ false D)) ∧ (∃ (mp : Option Addr) (mc : Nat), mv = .slice mp 32 mc) ∧ (fb' = fbB ∨ wB.heap.size ≤ fb') ∧ Kept [c, fbB] wB w' := by
  obtain ⟨S, mv, hS⟩ := hE
  obtain ⟨cs, c1, c9, c10, c11, cn⟩ := hS.ch.row
  obtain ⟨mp, mc, em⟩ := hS.mm.cell
  have hG2 : G < 256 ^ 100 := Nat.lt_trans hG (by decide)
  have hcw := hcv.keptN hS.k hH
  have hln := hS.len
  have hmo : ∃ (mp : Option Addr) (mc : Nat), mv = .slice mp 32 mc := ⟨mp, mc, by rw [em, hln]⟩
  have e32 : endN 13 19 = 32 := rfl
  refine stepB_enter1 S rr c fb m G 32002 32 16 0 0 0 240 cs fs0 cap _ cv mv ds (fun w' => FrameM S rr w' fb 0 fs0 m (G - 32002) [19, 13, V] mv) _ (fun _ _ => True) w (by decide) c1 c9 c11 hS.sl hS.fr hcw hm hl false hfc hkG (Nat.lt_of_lt_of_le hG2 (by decide)) ?_ ?_ ?_ family_create rfl ?_
  · intro w' K1
    have hF := hS.fr.kept K1
    refine refusalD_create _ fb 0 m G 32002 fs0 cv _ _ w' hF.toQ hfc.toD (by simp) (by simp) hkG (fun w1 K2 => arg_F fb 0 2 19 m G fs0 _ [19, 13, V] w1 (hF.kept K2).toQ (by simp) (by simp) (by simp)) fun w1 K2 => ?_
    have hF1 := hF.kept K2
    obtain ⟨fs, f1, _, _, f9, _⟩ := hF1.row
    rw [em] at f9
    refine costM_no _ fb 0 240 32002 32 mem.length 1 fs mp mc w1 f1 f9 (by decide) hln (by decide) (by decide) (by decide) (fun w2 K3 => ?_) (fun w2 K3 => ?_)
    · have hF2 := (hF1.kept K3).toQ
      exact bareCost_create _ _ _ w2 (enterCost_create _ 19 13 V fb 0 m G fs0 _ [] w2 hF2 (by simp) (by decide))
    · have hF2 := (hF1.kept K3).toQ
      exact (by have h := reach_create 19 13 V fb 0 m G fs0 _ [] w2 hF2 (by simp) (by decide) (by decide); rw [e32] at h; exact h)
  · intro w' K1 hF
    exact (by have h := reach_create 19 13 V fb 0 m (G - 32002) fs0 _ [] w' hF.toQ (by simp) (by decide) (by decide); rw [e32] at h; exact h)
  · intro w' r K1 hF hr
    obtain ⟨fs, f1, _, _, f9, _⟩ := hF.row
    rw [em] at f9
    refine (growM_no fb 0 32 mem.length 1 fs mp mc r w' f1 f9 hr hln (by decide) (by decide) (by decide)).mono ?_
    rintro e w3 ⟨r', rfl, K⟩
    exact ⟨r', rfl, hF.kept K, K.mono (by simp)⟩
  · intro w' K1 hF
    have hS2 := hS.frame K1 hF
    obtain ⟨wz, x1, x2⟩ := hS2.ch
    refine entersY_CR c fb 0 _ w' _ x1 (Nat.le_of_ble_eq_true (by kernel_rfl)) fun w2 K2 hrow => ?_
    rw [show (chN E wz (.slice (some ⟨fb, 0, none⟩) 1 cap) rt).setIfInBounds 10 nilS = chN E wz (.slice (some ⟨fb, 0, none⟩) 1 cap) nilS from by kernel_rfl] at hrow
    have hX1 := hard1 x1 (.inl rfl) (chy_nb _ _ _ _)
    have hC2 : ChY w2 c E (.slice (some ⟨fb, 0, none⟩) 1 cap) nilS la := ⟨wz, hrow, AdsV.keptN' x2 K2 hX1⟩
    have k2 : Kept [c, fbB] wB w2 := hS2.k.trans (K2.mono (by simp))
    have hA2 : AccD D w2 E.vz := (AccD.still D) _ _ _ _ hA k2 hH
    have hF2 : FrameQ w2 fb 0 fs0 m (G - 32002) [19, 13, V] mv := (hS2.fr.keptC K2 x1 (chy_nb _ _ _ _) (by decide) (by decide)).toQ
    have hMM : NatV w2 mv mem := (hS2.mm.nat hS2.sm (by omega)).keptN K2 hX1
    refine (enterCreate_0 c fb cap m (G - 32002) V E fs0 mv nilS mem la D da ds0 d2 w2 hC2 hA2 hF2 hMM (by omega) hcut hse hda hN1' hB hVB (by omega) hm1 hdn hds hsB hsV hl0 hlD hl1 h01 hlN hla hmd hsz hcap hc1 hV0).mono ?_
    rintro e w3 ⟨r, fb', cap', cur, pv, gv, sv, r7, cw, sg, vn, a0, a1, a3, a6, vz, md, rfl, y0, y1, y2, y3, y4, y5, y6, y7, y8, y9, y10, y11, y12, y13, y14, y15, y16, y17, y18, y19, y20, y21, ym⟩
    refine ⟨r, rfl, fb', cap', cur, pv, gv, sv, r7, mv, cw, sg, vn, a0, a1, a3, a6, vz, md, ⟨y0, y1, y2, y4, y5, y6, y7, y8, y9, y10, y11, y12, y13, y14, y15, y16, y17, y18, y19, y20, y21⟩, hmo, ?_, ?_⟩
    · rcases y3 with h | h
      · rw [h]
        exact hS2.b
      · exact .inr (Nat.le_trans k2.size h)
    · exact kept_new k2 hS2.b ym
theorem stepY_create1_v {wB : World} {c fbB : Nat} {E : XEnv} {rr fb cap : Nat} {fs0 : Array Value} {m G : Nat} {mem : List Nat} {rt : Value} {rd : List Nat} {la : List (List Nat)} {w : World} {cv : Value} {ds : List Nat} (V : Nat) (D : List AD) (da ds0 d2 : AD) (hE : StF wB c fbB E rr fb 0 1 cap fs0 m G [19, 13, V] mem 1 rt rd la w) (hH : Hard [c, fbB] wB) (hcv : NatV wB cv ds) (hfc : FrB fs0 0 false cv) (hm : ds[m]? = some 240) (hl : ds.length ≤ 1000) (hm1 : m ≤ 900) (hkG : 32002 ≤ G) (hG : G < 1000000) (hcut : cutB mem 13 19 = probeL) (hse : fs0.extract (0 + 12) (0 + 12 + 20) = ((ad 1).map n8).toArray) (hA : AccD D wB E.vz) (hda : D.find? (fun x => x.adr == ad 1) = some da) (hN1' : da.N = 1) (hB : da.B < 256 ^ 100) (hVB : V ≤ da.B) (hdn : (dPut ⟨ad 1, 1 + 1, da.B, da.ds⟩ false D).find? (fun x => x.adr == ha6) = none) (hds : (dPut ⟨ha6, 1, 0, []⟩ false (dPut ⟨ad 1, 1 + 1, da.B, da.ds⟩ false D)).find? (fun x => x.adr == ad 1) = some ds0) (hsB : ds0.B < 256 ^ 100) (hsV : V ≤ ds0.B) (hl0 : 0 < D.length) (hlD : D.length ≤ 15) (hl1 : (dPut ⟨ad 1, 1 + 1, da.B, da.ds⟩ false D).length ≤ 15) (h01 : 0 < (dPut ⟨ad 1, 1 + 1, da.B, da.ds⟩ false D).length) (hlN : (dPut ⟨ha6, 1, 0, []⟩ false (dPut ⟨ad 1, 1 + 1, da.B, da.ds⟩ false D)).length ≤ 15) (hla : la.length ≤ 15) (hmd : E.md = nilS) (hsz : fs0.size = cap * 60) (hcap : cap ≤ maxLen) (hc1 : 1 ≤ cap) (hV0 : V ≠ 0) (hN1 : ds0.N ≠ 0) (hN2 : d2.N ≠ 0) (hd2 : (dPut ⟨ad 1, ds0.N, ds0.B - V, ds0.ds⟩ false (dPut ⟨ha6, 1, 0, []⟩ false (dPut ⟨ad 1, 1 + 1, da.B, da.ds⟩ false D))).find? (fun x => x.adr == ha6) = some d2) (hB2 : d2.B < 256 ^ 100) (hll1 : (dPut ⟨ad 1, ds0.N, ds0.B - V, ds0.ds⟩ false (dPut ⟨ha6, 1, 0, []⟩ false (dPut ⟨ad 1, 1 + 1, da.B, da.ds⟩ false D))).length ≤ 100) :
    Calls Salg.prog 27 #[.pointer (some ⟨c, 0, none⟩)] w fun e w' => e = .returned (.bool true) ∧ ∃ (fb' cap' : Nat) (cur : Array Value) (pv gv sv r7 mv cw sg vn a0 a1 a3 a6 vz' md : Value), CreY w' c fb' cap' { E with vz := vz', md := md } cur fs0 pv gv sv r7 mv cw sg vn a0 a1 a3 a6 m ((G - 32002) - min (G - 32002) ((G - 32002) - (G - 32002) / 64)) (min (G - 32002) ((G - 32002) - (G - 32002) / 64)) V (adWith la ha6) (dPut ⟨ha6, d2.N, d2.B + V, d2.ds⟩ false (dPut ⟨ad 1, ds0.N, ds0.B - V, ds0.ds⟩ false (dPut ⟨ha6, 1, 0, []⟩ false (dPut ⟨ad 1, 1 + 1, da.B, da.ds⟩ false D)))) ∧ (∃ (mp : Option Addr) (mc : Nat), mv = .slice mp 32 mc) ∧ (fb' = fbB ∨ wB.heap.size ≤ fb') ∧ Kept [c, fbB] wB w' := by
  obtain ⟨S, mv, hS⟩ := hE
  obtain ⟨cs, c1, c9, c10, c11, cn⟩ := hS.ch.row
  obtain ⟨mp, mc, em⟩ := hS.mm.cell
  have hG2 : G < 256 ^ 100 := Nat.lt_trans hG (by decide)
  have hcw := hcv.keptN hS.k hH
  have hln := hS.len
  have hmo : ∃ (mp : Option Addr) (mc : Nat), mv = .slice mp 32 mc := ⟨mp, mc, by rw [em, hln]⟩
  have e32 : endN 13 19 = 32 := rfl
  refine stepB_enter1 S rr c fb m G 32002 32 16 0 0 0 240 cs fs0 cap _ cv mv ds (fun w' => FrameM S rr w' fb 0 fs0 m (G - 32002) [19, 13, V] mv) _ (fun _ _ => True) w (by decide) c1 c9 c11 hS.sl hS.fr hcw hm hl false hfc hkG (Nat.lt_of_lt_of_le hG2 (by decide)) ?_ ?_ ?_ family_create rfl ?_
  · intro w' K1
    have hF := hS.fr.kept K1
    refine refusalD_create _ fb 0 m G 32002 fs0 cv _ _ w' hF.toQ hfc.toD (by simp) (by simp) hkG (fun w1 K2 => arg_F fb 0 2 19 m G fs0 _ [19, 13, V] w1 (hF.kept K2).toQ (by simp) (by simp) (by simp)) fun w1 K2 => ?_
    have hF1 := hF.kept K2
    obtain ⟨fs, f1, _, _, f9, _⟩ := hF1.row
    rw [em] at f9
    refine costM_no _ fb 0 240 32002 32 mem.length 1 fs mp mc w1 f1 f9 (by decide) hln (by decide) (by decide) (by decide) (fun w2 K3 => ?_) (fun w2 K3 => ?_)
    · have hF2 := (hF1.kept K3).toQ
      exact bareCost_create _ _ _ w2 (enterCost_create _ 19 13 V fb 0 m G fs0 _ [] w2 hF2 (by simp) (by decide))
    · have hF2 := (hF1.kept K3).toQ
      exact (by have h := reach_create 19 13 V fb 0 m G fs0 _ [] w2 hF2 (by simp) (by decide) (by decide); rw [e32] at h; exact h)
  · intro w' K1 hF
    exact (by have h := reach_create 19 13 V fb 0 m (G - 32002) fs0 _ [] w' hF.toQ (by simp) (by decide) (by decide); rw [e32] at h; exact h)
  · intro w' r K1 hF hr
    obtain ⟨fs, f1, _, _, f9, _⟩ := hF.row
    rw [em] at f9
    refine (growM_no fb 0 32 mem.length 1 fs mp mc r w' f1 f9 hr hln (by decide) (by decide) (by decide)).mono ?_
    rintro e w3 ⟨r', rfl, K⟩
    exact ⟨r', rfl, hF.kept K, K.mono (by simp)⟩
  · intro w' K1 hF
    have hS2 := hS.frame K1 hF
    obtain ⟨wz, x1, x2⟩ := hS2.ch
    refine entersY_CR c fb 0 _ w' _ x1 (Nat.le_of_ble_eq_true (by kernel_rfl)) fun w2 K2 hrow => ?_
    rw [show (chN E wz (.slice (some ⟨fb, 0, none⟩) 1 cap) rt).setIfInBounds 10 nilS = chN E wz (.slice (some ⟨fb, 0, none⟩) 1 cap) nilS from by kernel_rfl] at hrow
    have hX1 := hard1 x1 (.inl rfl) (chy_nb _ _ _ _)
    have hC2 : ChY w2 c E (.slice (some ⟨fb, 0, none⟩) 1 cap) nilS la := ⟨wz, hrow, AdsV.keptN' x2 K2 hX1⟩
    have k2 : Kept [c, fbB] wB w2 := hS2.k.trans (K2.mono (by simp))
    have hA2 : AccD D w2 E.vz := (AccD.still D) _ _ _ _ hA k2 hH
    have hF2 : FrameQ w2 fb 0 fs0 m (G - 32002) [19, 13, V] mv := (hS2.fr.keptC K2 x1 (chy_nb _ _ _ _) (by decide) (by decide)).toQ
    have hMM : NatV w2 mv mem := (hS2.mm.nat hS2.sm (by omega)).keptN K2 hX1
    refine (enterCreate_v c fb cap m (G - 32002) V E fs0 mv nilS mem la D da ds0 d2 w2 hC2 hA2 hF2 hMM (by omega) hcut hse hda hN1' hB hVB (by omega) hm1 hdn hds hsB hsV hl0 hlD hl1 h01 hlN hla hmd hsz hcap hc1 hV0 hN1 hN2 hd2 hB2 hll1).mono ?_
    rintro e w3 ⟨r, fb', cap', cur, pv, gv, sv, r7, cw, sg, vn, a0, a1, a3, a6, vz, md, rfl, y0, y1, y2, y3, y4, y5, y6, y7, y8, y9, y10, y11, y12, y13, y14, y15, y16, y17, y18, y19, y20, y21, ym⟩
    refine ⟨r, rfl, fb', cap', cur, pv, gv, sv, r7, mv, cw, sg, vn, a0, a1, a3, a6, vz, md, ⟨y0, y1, y2, y4, y5, y6, y7, y8, y9, y10, y11, y12, y13, y14, y15, y16, y17, y18, y19, y20, y21⟩, hmo, ?_, ?_⟩
    · rcases y3 with h | h
      · rw [h]
        exact hS2.b
      · exact .inr (Nat.le_trans k2.size h)
    · exact kept_new k2 hS2.b ym
theorem _root_.Go.Own.CreY.kept {w w' : World} {c fb cap : Nat} {E : XEnv} {cur fs0 : Array Value} {pv gv sv r7 mv cw sg vn a0 a1 a3 a6 : Value} {m G1 G2 V : Nat} {la : List (List Nat)} {D : List AD} (h : CreY w c fb cap E cur fs0 pv gv sv r7 mv cw sg vn a0 a1 a3 a6 m G1 G2 V la D) (K : Kept [] w w') : CreY w' c fb cap E cur fs0 pv gv sv r7 mv cw sg vn a0 a1 a3 a6 m G1 G2 V la D :=
  { h with ch := h.ch.kept K, row := K.row h.row (by simp), parts := h.parts.kept K, n7 := h.n7.kept K, nsg := h.nsg.kept K, ncw := h.ncw.kept K, nvn := h.nvn.kept K, acc := (AccD.still D) _ _ _ _ h.acc K (hard_nil w) }
theorem creY_start {w : World} {c fb cap : Nat} {E : XEnv} {cur fs0 : Array Value} {pv gv sv r7 mv cw sg vn a0 a1 a3 a6 : Value} {m G1 G2 V : Nat} {la : List (List Nat)} {D : List AD} (h : CreY w c fb cap E cur fs0 pv gv sv r7 mv cw sg vn a0 a1 a3 a6 m G1 G2 V la D) :
    StF w c fb E 0 fb 60 2 cap cur 0 G2 [] [] 0 nilS [] la w ∧ RunY w c fb 60 false cw probeL cur ha6 (ad 1) := by
  have hz : 60 + 60 ≤ cur.size := by
    have h1 := h.size
    have h2 := h.cap2
    omega
  have e := h.inn
  have hF : FrameQ w fb 60 cur 0 G2 [] nilS := ⟨cur, nilS, sg, nilS, [], h.row, rfl, fun k _ _ _ _ => rfl, by rw [e 3 (by decide)]; rfl, nil_num _, by rw [e 4 (by decide)]; rfl, h.nsg, by rw [e 8 (by decide)]; rfl, .inl ⟨rfl, rfl⟩, ⟨rfl, fun k v n e => by simp at e⟩, by rw [e 9 (by decide)]; rfl⟩
  refine ⟨state_back 0 (Kept.refl _ _) h.ch hF (NatV.nil _), ?_⟩
  have hx := ext_frGL rfl rfl hz e
  exact ⟨hard_of h.ch hF, h.ncw, ⟨by rw [e 1 (by decide)]; rfl, by rw [e 2 (by decide)]; rfl, by rw [e 10 (by decide)]; rfl, hz⟩, by decide, hx.1, hx.2, rfl, rfl⟩
/-- STOP past the code's end in the outer frame. -/
theorem stopE {w0 w : World} {c fb cap : Nat} {E : XEnv} {rt mv cv : Value} {la : List (List Nat)} {fs : Array Value} {m G kd T : Nat} {ns ds : List Nat} {D : List AD} {sb : Bool} (hC : ChY w c E (.slice (some ⟨fb, 0, none⟩) 1 cap) rt la) (hF : FrameQ w fb 0 fs m G ns mv) (hcv : NatV w cv ds) (hm : ds.length ≤ m) (hms : m ≤ 1000) (hl : ds.length ≤ 1000) (hfc : FrB fs 0 sb cv) (hG : G ≤ 200000) (hns : ns.length ≤ 20) (mp : Option Addr) (mc L W : Nat) (em : mv = .slice mp L mc) (hL : L = 32 * W) (hW : W ≤ 100) (hkd : fs[0 + 0]? = some (.int .u8 (kd : Int))) (hcr : ∀ w, Calls Salg.prog 172 #[.int .u8 (kd : Int)] w fun e w' => e = .returned (.bool false) ∧ w' = w) (hone : ∀ k u, k < 60 → fs[0 + k]? = some u → u.oneCell' = true) (hsz : cap * 60 ≤ fs.size) (hcap : 1 ≤ cap) (hcap2 : cap ≤ maxLen) (acc : AccD D w E.vz) (md : E.md.oneCell' = true) (ma : E.ma = z20) (lim : NumV w E.lim 200000) (pr : NumV w E.pr 0) (tv : NumV w E.tv T) (gv : E.gv.oneCell' = true) (bas : Bas w0 c fb w) (hsf : sb = false) (hse : fs.extract (0 + 12) (0 + 12 + 20) = ((ad 1).map n8).toArray) {wZ : World} {f : Nat} (hk1 : ∀ w2, Kept [c, fb] w w2 → Kept [c, f] wZ w2) : Play c (fun w2 => (EndG w2 c T [] D z20 ∧ Kept [c] w0 w2) ∧ Kept [c, f] wZ w2) 1 w := by
  subst hsf
  obtain ⟨cs, c1, c9, c10, c11, cn⟩ := hC.row
  have hX := hard_of hC hF
  refine Play.step (P := fun w' => (EndG w' c T [] D z20 ∧ Kept [c] w0 w') ∧ Kept [c, f] wZ w') ?_ fun w' hx => play_endG hx.1.1 hx.1.2 hx.2
  refine stepQ_stop1 c fb m G 0 0 0 0 0 0 cs fs cap ns cv mv ds (fun w' => FrameQ w' fb 0 fs m (G - 0) ns mv ∧ Kept [fb] w w') _ (fun _ _ => True) w c1 c9 c11 hF hcv hm (by omega) hl false hfc (by omega) (Nat.lt_of_le_of_lt hG (by decide)) ?_ ?_ ?_ ?_
  · intro w' K1
    refine refusal_stop _ fb 0 m G 0 fs cv _ _ w' (hF.kept K1) ⟨hfc.f1, hfc.f2, hfc.f10, hse, hfc.size⟩ (by simp) (by omega) (by omega) fun w1 K2 => ?_
    obtain ⟨fs', pv, gv', sv, xs, h1, h0, h2, h3, h4, h5, h6, h7, h8, h9, ha⟩ := (hF.kept K1).kept K2
    rw [em] at ha
    refine costM_no _ fb 0 0 0 0 L W fs' mp mc w1 h1 ha (by decide) hL hW (by decide) (Nat.zero_le _) (fun w2 K3 => ?_) (fun w2 K3 => ?_)
    · exact bareCost_stop _ _ w2
    · refine (reach_stop _ w2).mono ?_
      rintro e w3 ⟨rfl, rfl⟩
      exact ⟨_, rfl, nil_num _, Kept.refl _ _⟩
  · intro w' K1 hF'
    refine (reach_stop _ w').mono ?_
    rintro e w3 ⟨rfl, rfl⟩
    exact ⟨_, rfl, nil_num _, Kept.refl _ _⟩
  · intro w' r K1 hF' hr
    have hF2 := hF'
    obtain ⟨fs', pv, gv', sv, xs, h1, h0, h2, h3, h4, h5, h6, h7, h8, h9, ha⟩ := hF'
    rw [em] at ha
    refine (growM_no fb 0 0 L W fs' mp mc r w' h1 ha hr hL hW (by decide) (Nat.zero_le _)).mono ?_
    rintro e w3 ⟨r', rfl, K⟩
    exact ⟨r', rfl, ⟨hF2.kept K, K1.trans (K.mono (by simp))⟩, K.mono (by simp)⟩
  · rintro w' K1 ⟨hF', K2⟩
    have k2 : Kept [c, fb] w w' := K2.mono (by simp)
    obtain ⟨fs', pv, gv', sv, xs, h1, _⟩ := hF
    have hC' := hC.frame K2 h1
    refine (leaveY_ok c fb cap kd 0 0 m (G - 0) fs ns la E rt nilS nilS nilS nilS nilS mv nilS [] w' hC' hF' hkd hcr hone (by rw [em]; rfl) hsz hcap hcap2 (NatV.nil _)).mono ?_
    rintro e w'' ⟨r, rfl, hE, K⟩
    have k3 : Kept [c, fb] w w'' := k2.trans (K.mono (by simp))
    exact ⟨r, rfl, ⟨⟨E, _, la, by omega, hE, (AccD.still D) _ _ _ _ acc k3 hX, md, ma, lim.keptN k3 hX, pr.keptN k3 hX, tv.keptN k3 hX, gv⟩, bas.to k3⟩, hk1 _ k3⟩
theorem create_back {w0 wB wC : World} {c fbB fb cap : Nat} {E : XEnv} {cur fs0 : Array Value} {pv gv sv r7 mv cw sg vn a0 a1 a3 a6 cv1 : Value} {m1 G1 G2 V T : Nat} {la : List (List Nat)} {D : List AD} {ds1 cl1 : List Nat} (d : AD) (R1 : RunY wB c fbB 0 false cv1 ds1 fs0 (ad 1) cl1) (C : CreY wC c fb cap E cur fs0 pv gv sv r7 mv cw sg vn a0 a1 a3 a6 m1 G1 G2 V la D) (hV2 : V < 256) (hb : fb = fbB ∨ wB.heap.size ≤ fb) (K : Kept [c, fbB] wB wC) (bas : Bas w0 c fbB wB) (ma : E.ma = z20) (lim : NumV wC E.lim 200000) (pr : NumV wC E.pr 0) (tv : NumV wC E.tv T) (gvo : E.gv.oneCell' = true) (hm : ds1.length ≤ m1 + 1) (hm7 : m1 ≤ 700) (h00 : fs0[0 + 0]? = some (.int .u8 ((0 : Nat) : Int))) (hone : ∀ k u, k < 60 → fs0[0 + k]? = some u → u.oneCell' = true) (mp : Option Addr) (mc L W : Nat) (em : mv = .slice mp L mc) (hL : L = 32 * W) (hW : W ≤ 100) (hg2 : 27000 ≤ G2) (hg : G1 + G2 ≤ 200000) (hd : D.find? (fun x => x.adr == ha6) = some d) (hN0 : d.N ≠ 0) (hll : D.length ≤ 400) : AtProbe c 1 false ha6 (ad 1) (fun w2 => EndG w2 c T [] (dPut ⟨ha6, d.N, d.B, probeM ha6 (ad 1) V⟩ false D) z20 ∧ Kept [c] w0 w2) wC := by
  obtain ⟨hS, hR⟩ := creY_start C
  have hsz := C.size
  have hc2 := C.cap2
  refine ⟨fun w1 K1 => ?_, 1 + 1 + 14, fb, lt_of_row C.row, fun w1 K1 => ?_⟩
  · refine (sees2 hR (StY.keptZ hS K1) (by omega) (by omega) (by simp) (by simp)).mono ?_
    rintro e w' ⟨s1, s2, s3, he, o1, o2, o3, K2⟩
    exact ⟨_, s1, s2, s3, he, o1, o2, o3, K2⟩
  · clear hS hR
    replace C := C.kept K1
    replace lim := lim.kept K1
    replace pr := pr.kept K1
    replace tv := tv.kept K1
    replace K := K.trans (K1.mono (by simp))
    obtain ⟨hS, hR⟩ := creY_start C
    refine probe_run2 hR small_ha6 (ad_small (by decide)) (by have e := C.inn 5 (by decide); exact e) C.nvn hV2 (by omega) (by omega) hS fun w2 h2 => ?_
    have g : growC 4 (endN 0 128) = 0 := by decide
    have hl : (probeM ha6 (ad 1) V).length = 128 := probeM_len rfl rfl
    refine Play.step (P := fun w' => Play c (fun w2 => (EndG w2 c T [] (dPut ⟨ha6, d.N, d.B, probeM ha6 (ad 1) V⟩ false D) z20 ∧ Kept [c] w0 w2) ∧ Kept [c, fb] w1 w2) 1 w') (stepY_return2 (ns := []) 128 0 _ h2 hR.hard hR.code hR.fd rfl hR.len (by simp) (by omega) (by rw [g]; omega) (by omega) (by simp) (by omega) (by omega) ?_) fun w' hx => hx
    intro w' u S' mv' hS' hu hu2
    rw [growB_128 hl, cutB_whole hl] at hu
    have o4 : mv'.oneCell' = true := by
      obtain ⟨mp', mc', em'⟩ := hS'.mm.cell
      rw [em']
      rfl
    rw [g] at hS'
    have big : 200000 < 256 ^ 100 := by decide
    refine (leaveC_in2 c fb cap 5 m1 G1 18 (G2 - 48 - (0 + 0)) cur _ la E nilS pv gv sv r7 mv mv' u (probeM ha6 (ad 1) V) ha6 D d w' hS'.ch hS'.fr.toQ (by have e := C.inn 0 (by decide); exact e) creates_five (frG_cellsL C.inn C.nsg.one C.nvn.one C.ncw.one rfl C.one) o4 (by omega) hc2 C.capM hu hl rfl rfl small_ha6 hR.se ((AccD.still D) _ _ _ _ C.acc hS'.k hR.hard) hd hN0 hll (by omega) (C.parts.keptN hS'.k hR.hard) C.c3 C.c4 C.c7 C.c8 C.c9 (C.n7.keptN hS'.k hR.hard) (by omega) (Nat.lt_of_le_of_lt (by omega) big) (Nat.lt_of_le_of_lt (by omega) big) (by omega)).mono ?_
    rintro e w'' ⟨r, vz, fs1, rfl, hA, hC, hF, hk, hz, K5⟩
    refine ⟨r, rfl, ?_⟩
    have k5 : Kept [c, fb] w1 w'' := hS'.k.trans K5
    have k6 : Kept [c, fbB] wB w'' := kept_new K hb k5
    have hH := hard_of hC hF
    have R1' : RunY w'' c fb 0 false cv1 ds1 fs1 (ad 1) cl1 := R1.back k6 hH (by omega) (fun k hk1 a b d e f g => by
      rw [hk _ (by omega), Nat.zero_add]
      exact C.par _ (by omega) (by omega) (by omega) (by omega) (by omega) (by omega) (by omega))
    have ho : ∀ k u, k < 60 → fs1[0 + k]? = some u → u.oneCell' = true := fun k u hk1 hu => by
      rw [hk _ (by omega)] at hu
      by_cases k3 : k = 3
      · subst k3; rw [C.c3] at hu; cases hu; exact C.parts.p.one
      by_cases k4 : k = 4
      · subst k4; rw [C.c4] at hu; cases hu; exact C.parts.g.one
      by_cases k6 : k = 6
      · subst k6
        obtain ⟨r6, e1, e2⟩ := C.c6
        rw [e1] at hu; cases hu; exact e2
      by_cases k7 : k = 7
      · subst k7; rw [C.c7] at hu; cases hu; exact C.n7.one
      by_cases k8 : k = 8
      · subst k8; rw [C.c8] at hu; cases hu; exact C.parts.s.one
      by_cases k9 : k = 9
      · subst k9; rw [C.c9, em] at hu; cases hu; rfl
      rw [Nat.zero_add, C.par k hk1 k3 k4 k6 k7 k8 k9] at hu
      exact hone k u hk1 (by rw [Nat.zero_add]; exact hu)
    have h0' : fs1[0 + 0]? = some (.int .u8 ((0 : Nat) : Int)) := by
      rw [hk _ (by omega), Nat.zero_add, C.par 0 (by omega) (by omega) (by omega) (by omega) (by omega) (by omega) (by omega)]
      exact h00
    exact stopE hC hF R1'.code hm (by omega) R1'.len R1'.fd (by omega) (by simp) mp mc L W em hL hW h0' creates_zero ho (by omega) (by omega) (by decide) hA C.mdo ma (lim.keptN k5 hR.hard) (pr.keptN k5 hR.hard) (tv.keptN k5 hR.hard) gvo (bas.next k6 hb) rfl R1'.se (fun w K4 => kept_new k5 (.inl rfl) K4)
def creL (v : Nat) : List Nat := 114 :: (probeL ++ [95, 82, 96, 19, 96, 13, 96, v, 240])
def memC : List Nat := List.replicate 13 0 ++ probeL
theorem small_memC : Small memC := by
  intro x hx
  have h : ∀ x ∈ memC, x < 256 := by decide
  exact h x hx
theorem pre6 {w0 w : World} {c fb cap : Nat} {E : XEnv} {cur : Array Value} {gv fv cw iu a0 a1 a3 a6 : Value} {v V T kk : Nat} {D : List AD} {P : World → Prop} (B : BegY w0 w c fb cap E cur gv fv cw iu a0 a1 a3 a6 1 v (creL V) (laT 1) D T) (hV : V < 256) (k : ∀ w', StF w c fb E 0 fb 0 1 cap cur 28 (179000 - 20) [19, 13, V] memC 1 nilS [] (laT 1) w' → Goes c 1 (fun w' => Kept [c] w0 w') P kk w') : Goes c 1 (fun w' => Kept [c] w0 w') P (kk + 6) w := by
  obtain ⟨hS, hR⟩ := begY_start B (by simp [creL, probeL])
  have hbe : be probeL = be memC := (be_pad 13 probeL).symm
  have hbl : be memC < 256 ^ 32 := by rw [← show memC.length = 32 from rfl]; exact be_lt _ small_memC
  have g0 : growC 0 (0 + 32) = 3 := by decide
  replace hS : StF w c fb E 0 fb 0 1 cap cur 0 (179000 - 0) [] [] 0 nilS [] (laT 1) w := hS
  refine Goes.step1 hR (fun _ KK => B.bas.to KK) hS (by decide) (by omega) (by omega) (by intro N hN; simp at hN <;> (first | (rcases hN with rfl | rfl | rfl <;> first | exact hbl | (exact Nat.lt_of_lt_of_le hV (by decide)) | decide) | (rcases hN with rfl | rfl <;> first | exact hbl | decide) | (subst hN; first | exact hbl | decide))) (by simp) (fun w1 h1 => stepY_push191 (be probeL) 0 h1 hR.hard hR.code hR.fd rfl hR.len (by simp) (by omega) (by omega) (by omega) (Nat.zero_le _) (Nat.zero_le _) rfl) fun w' h => ?_
  replace h : StF w c fb E 0 fb 0 1 cap cur 20 (179000 - 3) [be probeL] [] 0 nilS [] (laT 1) w' := by simpa only [Nat.sub_sub, Nat.reduceAdd, Nat.reduceSub, List.length_nil, List.nil_append, List.cons_append] using h
  refine Goes.step1 hR (fun _ KK => B.bas.to KK) h (by decide) (by omega) (by omega) (by intro N hN; simp at hN <;> (first | (rcases hN with rfl | rfl | rfl <;> first | exact hbl | (exact Nat.lt_of_lt_of_le hV (by decide)) | decide) | (rcases hN with rfl | rfl <;> first | exact hbl | decide) | (subst hN; first | exact hbl | decide))) (by simp) (fun w1 h1 => stepY_push01 0 0 h1 hR.hard hR.code hR.fd rfl hR.len (by simp) (by omega) (by omega) (by omega) (Nat.zero_le _) (Nat.zero_le _) rfl) fun w' h => ?_
  rw [hbe] at h
  replace h : StF w c fb E 0 fb 0 1 cap cur 21 (179000 - 5) [be memC, 0] [] 0 nilS [] (laT 1) w' := by simpa only [Nat.sub_sub, Nat.reduceAdd, Nat.reduceSub, List.length_nil, List.nil_append, List.cons_append] using h
  refine Goes.step1 hR (fun _ KK => B.bas.to KK) h (by decide) (by omega) (by omega) (by intro N hN; simp at hN <;> (first | (rcases hN with rfl | rfl | rfl <;> first | exact hbl | (exact Nat.lt_of_lt_of_le hV (by decide)) | decide) | (rcases hN with rfl | rfl <;> first | exact hbl | decide) | (subst hN; first | exact hbl | decide))) (by simp) (fun w1 h1 => stepY_mstore1 (ns := []) 0 memC h1 hR.hard hR.code hR.fd rfl hR.len (by simp) (by omega) (by rw [g0]; omega) (by omega) (Nat.zero_le _) (Nat.zero_le _) rfl small_memC (by omega)) fun w' h => ?_
  rw [g0, show max 0 (wds (0 + 32)) = 1 from rfl, show wrB (growB [] (0 + 32)) 0 memC = memC from mem_app (i := 0) (mem := []) (bs := memC) rfl rfl] at h
  replace h : StF w c fb E 0 fb 0 1 cap cur 22 (179000 - 11) [] memC 1 nilS [] (laT 1) w' := by simpa only [Nat.sub_sub, Nat.reduceAdd, Nat.reduceSub, List.length_nil, List.nil_append, List.cons_append] using h
  refine Goes.step1 hR (fun _ KK => B.bas.to KK) h (by decide) (by omega) (by omega) (by intro N hN; simp at hN <;> (first | (rcases hN with rfl | rfl | rfl <;> first | exact hbl | (exact Nat.lt_of_lt_of_le hV (by decide)) | decide) | (rcases hN with rfl | rfl <;> first | exact hbl | decide) | (subst hN; first | exact hbl | decide))) (by simp) (fun w1 h1 => stepY_push11 19 0 h1 hR.hard hR.code hR.fd rfl hR.len (by simp) (by omega) (by omega) (by omega) (Nat.zero_le _) (Nat.zero_le _) (by simp [creL, probeL, cutB, be])) fun w' h => ?_
  replace h : StF w c fb E 0 fb 0 1 cap cur 24 (179000 - 14) [19] memC 1 nilS [] (laT 1) w' := by simpa only [Nat.sub_sub, Nat.reduceAdd, Nat.reduceSub, List.length_nil, List.nil_append, List.cons_append] using h
  refine Goes.step1 hR (fun _ KK => B.bas.to KK) h (by decide) (by omega) (by omega) (by intro N hN; simp at hN <;> (first | (rcases hN with rfl | rfl | rfl <;> first | exact hbl | (exact Nat.lt_of_lt_of_le hV (by decide)) | decide) | (rcases hN with rfl | rfl <;> first | exact hbl | decide) | (subst hN; first | exact hbl | decide))) (by simp) (fun w1 h1 => stepY_push11 13 0 h1 hR.hard hR.code hR.fd rfl hR.len (by simp) (by omega) (by omega) (by omega) (Nat.zero_le _) (Nat.zero_le _) (by simp [creL, probeL, cutB, be])) fun w' h => ?_
  replace h : StF w c fb E 0 fb 0 1 cap cur 26 (179000 - 17) [19, 13] memC 1 nilS [] (laT 1) w' := by simpa only [Nat.sub_sub, Nat.reduceAdd, Nat.reduceSub, List.length_nil, List.nil_append, List.cons_append] using h
  refine Goes.step1 hR (fun _ KK => B.bas.to KK) h (by decide) (by omega) (by omega) (by intro N hN; simp at hN <;> (first | (rcases hN with rfl | rfl | rfl <;> first | exact hbl | (exact Nat.lt_of_lt_of_le hV (by decide)) | decide) | (rcases hN with rfl | rfl <;> first | exact hbl | decide) | (subst hN; first | exact hbl | decide))) (by simp) (fun w1 h1 => stepY_push11 V 0 h1 hR.hard hR.code hR.fd rfl hR.len (by simp) (by omega) (by omega) (by omega) (Nat.zero_le _) (Nat.zero_le _) (by simp [creL, probeL, cutB, be])) fun w' h => ?_
  replace h : StF w c fb E 0 fb 0 1 cap cur 28 (179000 - 20) [19, 13, V] memC 1 nilS [] (laT 1) w' := by simpa only [Nat.sub_sub, Nat.reduceAdd, Nat.reduceSub, List.length_nil, List.nil_append, List.cons_append] using h
  exact k w' h
theorem crun_6z {w0 w : World} {c fb cap : Nat} {E : XEnv} {cur : Array Value} {gv fv cw iu a0 a1 a3 a6 : Value} {v T : Nat} {D : List AD} (V : Nat) (da ds0 d2 d : AD) (B : BegY w0 w c fb cap E cur gv fv cw iu a0 a1 a3 a6 1 v (creL V) (laT 1) D T) (hV : V < 256) (hda : D.find? (fun x => x.adr == ad 1) = some da) (hN1' : da.N = 1) (hB : da.B < 256 ^ 100) (hVB : V ≤ da.B) (hdn : (dPut ⟨ad 1, 1 + 1, da.B, da.ds⟩ false D).find? (fun x => x.adr == ha6) = none) (hds : (dPut ⟨ha6, 1, 0, []⟩ false (dPut ⟨ad 1, 1 + 1, da.B, da.ds⟩ false D)).find? (fun x => x.adr == ad 1) = some ds0) (hsB : ds0.B < 256 ^ 100) (hsV : V ≤ ds0.B) (hl0 : 0 < D.length) (hlD : D.length ≤ 15) (hl1 : (dPut ⟨ad 1, 1 + 1, da.B, da.ds⟩ false D).length ≤ 15) (h01 : 0 < (dPut ⟨ad 1, 1 + 1, da.B, da.ds⟩ false D).length) (hlN : (dPut ⟨ha6, 1, 0, []⟩ false (dPut ⟨ad 1, 1 + 1, da.B, da.ds⟩ false D)).length ≤ 15) (hV0 : V = 0) (hd : (dPut ⟨ha6, 1, 0, []⟩ false (dPut ⟨ad 1, 1 + 1, da.B, da.ds⟩ false D)).find? (fun x => x.adr == ha6) = some d) (hN0 : d.N ≠ 0) (hll : (dPut ⟨ha6, 1, 0, []⟩ false (dPut ⟨ad 1, 1 + 1, da.B, da.ds⟩ false D)).length ≤ 400) :
    Goes c 1 (fun w' => Kept [c] w0 w') (AtProbe c 1 false ha6 (ad 1) (fun w2 => EndG w2 c T [] (dPut ⟨ha6, d.N, d.B, probeM ha6 (ad 1) V⟩ false (dPut ⟨ha6, 1, 0, []⟩ false (dPut ⟨ad 1, 1 + 1, da.B, da.ds⟩ false D))) z20 ∧ Kept [c] w0 w2)) (0 + 1 + 6) w := by
  obtain ⟨_, hR⟩ := begY_start B (by simp [creL, probeL])
  refine pre6 B hV fun w1 h1 => ?_
  refine Goes.step1 hR (fun _ KK => B.bas.to KK) h1 (by decide) (by decide) (by decide) (ns_small (by intro N hN; simp at hN <;> omega)) (by simp) (fun w2 h2 => stepY_create1_0 V D da ds0 d2 h2 hR.hard hR.code hR.fd rfl hR.len (by decide) (by decide) (by decide) (by decide) hR.se B.acc hda hN1' hB hVB hdn hds hsB hsV hl0 hlD hl1 h01 hlN (by decide) B.env.md B.size B.capM B.cap1 hV0) fun w2 hx => ?_
  obtain ⟨fb', cap', cur', pv, gv', sv, r7, mv, cw', sg, vn, b0, b1, b3, b6, vz', md, C, ⟨mp, mc, em⟩, hb, K⟩ := hx
  exact ⟨B.bas.to K, create_back d hR C hV hb K B.bas B.env.ma (B.env.lim.keptN K hR.hard) (B.env.pr.keptN K hR.hard) (B.env.tv.keptN K hR.hard) B.env.gv (by simp [creL, probeL]) (by decide) (by have e := B.inn 0 (by decide); exact e) (frG_cells B.inn B.ngv.one B.nfv.one B.ncw.one B.niu.one B.one) mp mc 32 1 em rfl (by decide) (by decide) (by decide) hd hN0 hll⟩
theorem crun_6v {w0 w : World} {c fb cap : Nat} {E : XEnv} {cur : Array Value} {gv fv cw iu a0 a1 a3 a6 : Value} {v T : Nat} {D : List AD} (V : Nat) (da ds0 d2 d : AD) (B : BegY w0 w c fb cap E cur gv fv cw iu a0 a1 a3 a6 1 v (creL V) (laT 1) D T) (hV : V < 256) (hda : D.find? (fun x => x.adr == ad 1) = some da) (hN1' : da.N = 1) (hB : da.B < 256 ^ 100) (hVB : V ≤ da.B) (hdn : (dPut ⟨ad 1, 1 + 1, da.B, da.ds⟩ false D).find? (fun x => x.adr == ha6) = none) (hds : (dPut ⟨ha6, 1, 0, []⟩ false (dPut ⟨ad 1, 1 + 1, da.B, da.ds⟩ false D)).find? (fun x => x.adr == ad 1) = some ds0) (hsB : ds0.B < 256 ^ 100) (hsV : V ≤ ds0.B) (hl0 : 0 < D.length) (hlD : D.length ≤ 15) (hl1 : (dPut ⟨ad 1, 1 + 1, da.B, da.ds⟩ false D).length ≤ 15) (h01 : 0 < (dPut ⟨ad 1, 1 + 1, da.B, da.ds⟩ false D).length) (hlN : (dPut ⟨ha6, 1, 0, []⟩ false (dPut ⟨ad 1, 1 + 1, da.B, da.ds⟩ false D)).length ≤ 15) (hV0 : V ≠ 0) (hN1 : ds0.N ≠ 0) (hN2 : d2.N ≠ 0) (hd2 : (dPut ⟨ad 1, ds0.N, ds0.B - V, ds0.ds⟩ false (dPut ⟨ha6, 1, 0, []⟩ false (dPut ⟨ad 1, 1 + 1, da.B, da.ds⟩ false D))).find? (fun x => x.adr == ha6) = some d2) (hB2 : d2.B < 256 ^ 100) (hll1 : (dPut ⟨ad 1, ds0.N, ds0.B - V, ds0.ds⟩ false (dPut ⟨ha6, 1, 0, []⟩ false (dPut ⟨ad 1, 1 + 1, da.B, da.ds⟩ false D))).length ≤ 100) (hd : (dPut ⟨ha6, d2.N, d2.B + V, d2.ds⟩ false (dPut ⟨ad 1, ds0.N, ds0.B - V, ds0.ds⟩ false (dPut ⟨ha6, 1, 0, []⟩ false (dPut ⟨ad 1, 1 + 1, da.B, da.ds⟩ false D)))).find? (fun x => x.adr == ha6) = some d) (hN0 : d.N ≠ 0) (hll : (dPut ⟨ha6, d2.N, d2.B + V, d2.ds⟩ false (dPut ⟨ad 1, ds0.N, ds0.B - V, ds0.ds⟩ false (dPut ⟨ha6, 1, 0, []⟩ false (dPut ⟨ad 1, 1 + 1, da.B, da.ds⟩ false D)))).length ≤ 400) :
    Goes c 1 (fun w' => Kept [c] w0 w') (AtProbe c 1 false ha6 (ad 1) (fun w2 => EndG w2 c T [] (dPut ⟨ha6, d.N, d.B, probeM ha6 (ad 1) V⟩ false (dPut ⟨ha6, d2.N, d2.B + V, d2.ds⟩ false (dPut ⟨ad 1, ds0.N, ds0.B - V, ds0.ds⟩ false (dPut ⟨ha6, 1, 0, []⟩ false (dPut ⟨ad 1, 1 + 1, da.B, da.ds⟩ false D))))) z20 ∧ Kept [c] w0 w2)) (0 + 1 + 6) w := by
  obtain ⟨_, hR⟩ := begY_start B (by simp [creL, probeL])
  refine pre6 B hV fun w1 h1 => ?_
  refine Goes.step1 hR (fun _ KK => B.bas.to KK) h1 (by decide) (by decide) (by decide) (ns_small (by intro N hN; simp at hN <;> omega)) (by simp) (fun w2 h2 => stepY_create1_v V D da ds0 d2 h2 hR.hard hR.code hR.fd rfl hR.len (by decide) (by decide) (by decide) (by decide) hR.se B.acc hda hN1' hB hVB hdn hds hsB hsV hl0 hlD hl1 h01 hlN (by decide) B.env.md B.size B.capM B.cap1 hV0 hN1 hN2 hd2 hB2 hll1) fun w2 hx => ?_
  obtain ⟨fb', cap', cur', pv, gv', sv, r7, mv, cw', sg, vn, b0, b1, b3, b6, vz', md, C, ⟨mp, mc, em⟩, hb, K⟩ := hx
  exact ⟨B.bas.to K, create_back d hR C hV hb K B.bas B.env.ma (B.env.lim.keptN K hR.hard) (B.env.pr.keptN K hR.hard) (B.env.tv.keptN K hR.hard) B.env.gv (by simp [creL, probeL]) (by decide) (by have e := B.inn 0 (by decide); exact e) (frG_cells B.inn B.ngv.one B.nfv.one B.ncw.one B.niu.one B.one) mp mc 32 1 em rfl (by decide) (by decide) (by decide) hd hN0 hll⟩
end Go.Proofs.YgcsalGreat

/-
  The steps CALL, DELEGATECALL and STATICCALL in a run of Context.
-/
import Derived.Test.YgcsalGreatCx13
set_option linter.unusedSimpArgs false
set_option linter.unusedVariables false
namespace Go.Own
open Go.Proofs.YgcsalGreat
/-- What is known where a callee begins: its frame is number n of the chain's frames. -/
structure CallY (n : Nat) (w : World) (c fb cap : Nat) (E : XEnv) (cur fs0 : Array Value) (pv gv sv r7 cw sg vx iu a0 a1 a3 a6 : Value) (m G1 G2 kd sf cl : Nat) (sb : Bool) (ds : List Nat) (la : List (List Nat)) (D : List AD) : Prop where
  ch : ChY w c E (.slice (some ⟨fb, 0, none⟩) (n + 1) cap) nilS la
  row : w.heap[fb]? = some (.cells cur 142 (0, 0))
  par : ∀ k, k < 60 * n → k ≠ 60 * (n - 1) + 3 → k ≠ 60 * (n - 1) + 4 → k ≠ 60 * (n - 1) + 6 → k ≠ 60 * (n - 1) + 7 → k ≠ 60 * (n - 1) + 8 → k ≠ 60 * (n - 1) + 9 → cur[k]? = fs0[k]?
  c3 : cur[60 * (n - 1) + 3]? = some pv
  c4 : cur[60 * (n - 1) + 4]? = some gv
  c7 : cur[60 * (n - 1) + 7]? = some r7
  c8 : cur[60 * (n - 1) + 8]? = some sv
  c9 : cur[60 * (n - 1) + 9]? = some nilS
  c6 : ∃ r6 : Value, cur[60 * (n - 1) + 6]? = some r6 ∧ r6.oneCell' = true
  parts : PartsV w pv gv sv [] m G1 []
  n7 : NumV w r7 0
  inn : ∀ k, k < 60 → cur[60 * n + k]? = (frG kd sb sg vx cw iu (ad sf) (ad cl) (wrow5 a0 a1 a3 a6))[k]?
  nsg : NumV w sg G2
  ncw : NatV w cw ds
  niu : NatV w iu []
  size : cur.size = cap * 60
  capM : cap ≤ maxLen
  cap2 : n + 1 ≤ cap
  one : a0.oneCell' = true ∧ a1.oneCell' = true ∧ a3.oneCell' = true ∧ a6.oneCell' = true
  vone : vx.oneCell' = true
  acc : AccD D w E.vz
end Go.Own
namespace Go.Proofs.YgcsalGreat
open Go.RowKit Go.Own

set_option maxHeartbeats 4000000 in
set_option maxRecDepth 100000 in
theorem entersY_C (c fb q : Nat) (cs : Array Value) (w : World) (P2 : World → Prop) (hc : w.heap[c]? = some (.cells cs 119 (0, 0))) (hsz : 10 < cs.size)
    (hE : ∀ w', Kept [c] w w' → w'.heap[c]? = some (.cells (cs.setIfInBounds 10 nilS) 119 (0, 0)) → Calls Salg.prog 194 #[.pointer (some ⟨c, 0, none⟩), .pointer (some ⟨fb, q, none⟩), .int .u8 241] w' fun e w'' => ∃ r, e = .returned r ∧ P2 w'') :
    Calls Salg.prog 119 #[.pointer (some ⟨c, 0, none⟩), .pointer (some ⟨fb, q, none⟩), .int .u8 241] w fun e w' => ∃ r, e = .returned r ∧ P2 w' := by
  have HE := hid hE
  clear hE
  go_enter Salg.func119, Salg.ntmps119
  go_wp2_with ((with_reducible apply W_stV (b := c) (o := 10) (v := nilS)); rfl; rfl; rfl; exact hc; exact size40; exact hsz; intro w1 K1 hr1)
  have HK := hid K1
  clear K1
  refine (HE.out _ HK.out hr1).mono ?_
  rintro e w2 ⟨r, rfl, x⟩
  have HX := hid x
  clear x
  go_wp2_with fail
  go_end0
  exact ⟨_, rfl, HX.out⟩

set_option maxHeartbeats 4000000 in
set_option maxRecDepth 100000 in
theorem entersY_DL (c fb q : Nat) (cs : Array Value) (w : World) (P2 : World → Prop) (hc : w.heap[c]? = some (.cells cs 119 (0, 0))) (hsz : 10 < cs.size)
    (hE : ∀ w', Kept [c] w w' → w'.heap[c]? = some (.cells (cs.setIfInBounds 10 nilS) 119 (0, 0)) → Calls Salg.prog 194 #[.pointer (some ⟨c, 0, none⟩), .pointer (some ⟨fb, q, none⟩), .int .u8 244] w' fun e w'' => ∃ r, e = .returned r ∧ P2 w'') :
    Calls Salg.prog 119 #[.pointer (some ⟨c, 0, none⟩), .pointer (some ⟨fb, q, none⟩), .int .u8 244] w fun e w' => ∃ r, e = .returned r ∧ P2 w' := by
  have HE := hid hE
  clear hE
  go_enter Salg.func119, Salg.ntmps119
  go_wp2_with ((with_reducible apply W_stV (b := c) (o := 10) (v := nilS)); rfl; rfl; rfl; exact hc; exact size40; exact hsz; intro w1 K1 hr1)
  have HK := hid K1
  clear K1
  refine (HE.out _ HK.out hr1).mono ?_
  rintro e w2 ⟨r, rfl, x⟩
  have HX := hid x
  clear x
  go_wp2_with fail
  go_end0
  exact ⟨_, rfl, HX.out⟩

set_option maxHeartbeats 4000000 in
set_option maxRecDepth 100000 in
theorem entersY_SC (c fb q : Nat) (cs : Array Value) (w : World) (P2 : World → Prop) (hc : w.heap[c]? = some (.cells cs 119 (0, 0))) (hsz : 10 < cs.size)
    (hE : ∀ w', Kept [c] w w' → w'.heap[c]? = some (.cells (cs.setIfInBounds 10 nilS) 119 (0, 0)) → Calls Salg.prog 194 #[.pointer (some ⟨c, 0, none⟩), .pointer (some ⟨fb, q, none⟩), .int .u8 250] w' fun e w'' => ∃ r, e = .returned r ∧ P2 w'') :
    Calls Salg.prog 119 #[.pointer (some ⟨c, 0, none⟩), .pointer (some ⟨fb, q, none⟩), .int .u8 250] w fun e w' => ∃ r, e = .returned r ∧ P2 w' := by
  have HE := hid hE
  clear hE
  go_enter Salg.func119, Salg.ntmps119
  go_wp2_with ((with_reducible apply W_stV (b := c) (o := 10) (v := nilS)); rfl; rfl; rfl; exact hc; exact size40; exact hsz; intro w1 K1 hr1)
  have HK := hid K1
  clear K1
  refine (HE.out _ HK.out hr1).mono ?_
  rintro e w2 ⟨r, rfl, x⟩
  have HX := hid x
  clear x
  go_wp2_with fail
  go_end0
  exact ⟨_, rfl, HX.out⟩
theorem refusalB_call (st : Value) (fb q m G C : Nat) (fs0 : Array Value) (cv mc : Value) (ns : List Nat) (w : World) (hF : FrameQ w fb q fs0 m G ns mc) (sb : Bool) (hf : FrB fs0 q sb cv) (hn : 7 ≤ ns.length) (hn2 : ns.length ≤ 40) (hCG : C ≤ G)
    (hW : sb = true → ∀ w', Kept [] w w' → Calls Salg.prog 182 #[.pointer (some ⟨fb, q, none⟩), .int .u8 241] w' fun e w'' => e = .returned (.bool false) ∧ Kept [] w' w'')
    (hC : ∀ w', Kept [] w w' → Calls Salg.prog 183 #[st, .pointer (some ⟨fb, q, none⟩), .int .u8 241] w' fun e w'' => ∃ r, e = .returned r ∧ NumV w'' r C ∧ Kept [] w' w'') :
    Calls Salg.prog 111 #[st, .pointer (some ⟨fb, q, none⟩), .int .u8 241] w fun e w' => ∃ r, e = .returned (.tuple #[.int .u8 0, r]) ∧ NumV w' r C ∧ Kept [] w w' := by
  cases sb
  · exact refusalD_call st fb q m G C fs0 cv mc ns w hF hf.toD hn hn2 hCG hC
  · exact refusalT_call st fb q m G C fs0 cv mc ns w hF hf hn hn2 hCG (hW rfl) hC
theorem natV_of_num {w : World} {v : Value} {n : Nat} (h : NumV w v n) : v.oneCell' = true := h.one
theorem stepY_call1 {wB : World} {c fbB : Nat} {E : XEnv} {rr fb cap : Nat} {fs0 : Array Value} {m G : Nat} {rt : Value} {rd : List Nat} {la : List (List Nat)} {w : World} {cv : Value} {ds : List Nat} {sb : Bool} (A t a b V : Nat) (vv : Value) (D : List AD) (da dt d2 : AD) (hE : StF wB c fbB E rr fb 0 1 cap fs0 m G [0, 0, 0, 0, V, t, A] [] 0 rt rd la w) (hH : Hard [c, fbB] wB) (hcv : NatV wB cv ds) (hfc : FrB fs0 0 sb cv) (hm : ds[m]? = some 241) (hl : ds.length ≤ 1000) (hm1 : m ≤ 900) (hkG : 2600 ≤ G) (hG : G < 1000000) (hse : fs0.extract (0 + 12) (0 + 12 + 20) = ((ad a).map n8).toArray) (ha : a < 256) (hT : TargetOK t) (hA : AccD D wB E.vz) (hda : D.find? (fun x => x.adr == ad a) = some da) (hdt : D.find? (fun x => x.adr == ad t) = some dt) (hB : da.B < 256 ^ 100) (hVB : V ≤ da.B) (hn2 : ad t ∉ la) (hl0 : 0 < (adWith la (ad t)).length) (hl1 : la.length ≤ 15) (hl2 : (adWith la (ad t)).length ≤ 20) (hD0 : 0 < D.length) (hD20 : D.length ≤ 20) (hmd : E.md = nilS) (hsz : fs0.size = cap * 60) (hcap : cap ≤ maxLen) (hc1 : 1 ≤ cap) (hV0 : V = 0) :
    Calls Salg.prog 27 #[.pointer (some ⟨c, 0, none⟩)] w fun e w' => e = .returned (.bool true) ∧ ∃ (fb' cap' : Nat) (cur : Array Value) (pv gv sv r7 cw sg vn iu a0 a1 a3 a6 vz' : Value), CallY 1 w' c fb' cap' { E with vz := vz' } cur fs0 pv gv sv r7 cw sg vn iu a0 a1 a3 a6 m ((G - 2600) - (min A ((G - 2600) - (G - 2600) / 64))) (min A ((G - 2600) - (G - 2600) / 64)) 2 t a sb dt.ds (adWith la (ad t)) D ∧ NumV w' vn V ∧ (fb' = fbB ∨ wB.heap.size ≤ fb') ∧ Kept [c, fbB] wB w' := by
  obtain ⟨S, mv, hS⟩ := hE
  obtain ⟨cs, c1, c9, c10, c11, cn⟩ := hS.ch.row
  have emv : mv = nilS := by
    rcases hS.mm with ⟨_, h⟩ | ⟨_, _, _, _, _, h⟩
    · exact h
    · simp at h
  subst emv
  have hG2 : G < 256 ^ 100 := Nat.lt_trans hG (by decide)
  have hcw := hcv.keptN hS.k hH
  refine stepB_enter1 S rr c fb m G 2600 0 16 0 0 0 241 cs fs0 cap _ cv nilS ds (fun w' => FrameM S rr w' fb 0 fs0 m (G - 2600) [0, 0, 0, 0, V, t, A] nilS) _ (fun _ _ => True) w (by decide) c1 c9 c11 hS.sl hS.fr hcw hm hl sb hfc hkG (Nat.lt_of_lt_of_le hG2 (by decide)) ?_ ?_ ?_ family_call rfl ?_
  · intro w' K1
    have hF := hS.fr.kept K1
    refine refusalB_call _ fb 0 m G 2600 fs0 cv _ _ w' hF.toQ sb hfc (by simp) (by simp) hkG (fun hs w1 K2 => writes_call fb 0 m G V t A fs0 _ w1 (hF.kept K2).toQ hV0) fun w1 K2 => ?_
    have hF1 := hF.kept K2
    obtain ⟨fs, f1, _, _, f9, _⟩ := hF1.row
    refine costM_no _ fb 0 241 2600 0 0 0 fs none 0 w1 f1 f9 (by decide) rfl (by decide) (by decide) (Nat.zero_le _) (fun w2 K3 => ?_) (fun w2 K3 => ?_)
    · have hF2 := (hF1.kept K3).toQ
      exact bareCost_call _ _ _ w2 (enterCostY_call c 2600 V t A fb 0 m G E _ rt la D dt fs0 _ w2 hF2 hT (hS.ch.kept ((K1.trans K2).trans K3)) ((AccD.still D) _ _ _ _ hA (hS.k.trans (((K1.trans K2).trans K3).mono (by simp))) hH) (by decide) hV0 (fun w3 K4 => access_Y c t E _ rt la w3 (hS.ch.kept (((K1.trans K2).trans K3).trans K4)) hT.lt hn2))
    · have hF2 := (hF1.kept K3).toQ
      exact (by have h := reachY_call 0 0 0 0 V t A fb 0 m G fs0 _ [] w2 hF2 (by simp) (by decide) (by decide) (by decide) (by decide); rw [show max (endN 0 0) (endN 0 0) = 0 from rfl] at h; exact h)
  · intro w' K1 hF
    exact (by have h := reachY_call 0 0 0 0 V t A fb 0 m (G - 2600) fs0 _ [] w' hF.toQ (by simp) (by decide) (by decide) (by decide) (by decide); rw [show max (endN 0 0) (endN 0 0) = 0 from rfl] at h; exact h)
  · intro w' r K1 hF hr
    obtain ⟨fs, f1, _, _, f9, _⟩ := hF.row
    refine (growM_no fb 0 0 0 0 fs none 0 r w' f1 f9 hr rfl (by decide) (by decide) (Nat.zero_le _)).mono ?_
    rintro e w3 ⟨r', rfl, K⟩
    exact ⟨r', rfl, hF.kept K, K.mono (by simp)⟩
  · intro w' K1 hF
    have hS2 := hS.frame K1 hF
    obtain ⟨wz, x1, x2⟩ := hS2.ch
    refine entersY_C c fb 0 _ w' _ x1 (Nat.le_of_ble_eq_true (by kernel_rfl)) fun w2 K2 hrow => ?_
    rw [show (chN E wz (.slice (some ⟨fb, 0, none⟩) 1 cap) rt).setIfInBounds 10 nilS = chN E wz (.slice (some ⟨fb, 0, none⟩) 1 cap) nilS from by kernel_rfl] at hrow
    have hX1 := hard1 x1 (.inl rfl) (chy_nb _ _ _ _)
    have hC2 : ChY w2 c E (.slice (some ⟨fb, 0, none⟩) 1 cap) nilS la := ⟨wz, hrow, AdsV.keptN' x2 K2 hX1⟩
    have k2 : Kept [c, fbB] wB w2 := hS2.k.trans (K2.mono (by simp))
    have hA2 : AccD D w2 E.vz := (AccD.still D) _ _ _ _ hA k2 hH
    have hF2 : FrameQ w2 fb 0 fs0 m (G - 2600) [0, 0, 0, 0, V, t, A] nilS := (hS2.fr.keptC K2 x1 (chy_nb _ _ _ _) (by decide) (by decide)).toQ
    refine (enterCall1_call c fb cap m (G - 2600) A t a b V sb E fs0 cv vv nilS la D da dt d2 w2 hC2 hA2 hF2 hfc hse ha hT hda hdt hB hVB hl0 hl1 hl2 hD0 hD20 hmd hsz hcap hc1 (by omega) (by omega) hV0).mono ?_
    rintro e w3 ⟨r, fb', cap', cur, pv, gv, sv, r7, cw, sg, vn, iu, a0, a1, a3, a6, vz, rfl, y1, y2, y3, y4, y5, y6, y7, y8, y9, y96, ya, yb, yc, yd, ye, yf, yg, yh, yi, yj, yk, yl, ym⟩
    refine ⟨r, rfl, fb', cap', cur, pv, gv, sv, r7, cw, sg, vn, iu, a0, a1, a3, a6, vz, ⟨y1, y2, y4, y5, y6, y7, y8, y9, y96, ya, yb, yc, yd, yf, yg, yh, yi, yj, yk, ye.one, yl⟩, ye, ?_, ?_⟩
    · rcases y3 with h | h
      · rw [h]
        exact hS2.b
      · exact .inr (Nat.le_trans k2.size h)
    · refine ⟨ym.os.trans k2.os, ym.tape.trans k2.tape, ym.output.trans k2.output, Nat.le_trans k2.size ym.size, fun i hi hx => ?_⟩
      rw [ym.block i (Nat.lt_of_lt_of_le hi k2.size) ?_]
      · exact k2.block i hi hx
      · simp at hx ⊢
        rcases hS2.b with hb | hb
        · rw [hb]
          exact hx
        · exact ⟨hx.1, by omega⟩
theorem stepY_call1_v {wB : World} {c fbB : Nat} {E : XEnv} {rr fb cap : Nat} {fs0 : Array Value} {m G : Nat} {rt : Value} {rd : List Nat} {la : List (List Nat)} {w : World} {cv : Value} {ds : List Nat} {sb : Bool} (A t a b V : Nat) (vv : Value) (D : List AD) (da dt d2 : AD) (hE : StF wB c fbB E rr fb 0 1 cap fs0 m G [0, 0, 0, 0, V, t, A] [] 0 rt rd la w) (hH : Hard [c, fbB] wB) (hcv : NatV wB cv ds) (hfc : FrB fs0 0 sb cv) (hm : ds[m]? = some 241) (hl : ds.length ≤ 1000) (hm1 : m ≤ 900) (hkG : 11600 ≤ G) (hG : G < 1000000) (hse : fs0.extract (0 + 12) (0 + 12 + 20) = ((ad a).map n8).toArray) (ha : a < 256) (hT : TargetOK t) (hA : AccD D wB E.vz) (hda : D.find? (fun x => x.adr == ad a) = some da) (hdt : D.find? (fun x => x.adr == ad t) = some dt) (hB : da.B < 256 ^ 100) (hVB : V ≤ da.B) (hn2 : ad t ∉ la) (hl0 : 0 < (adWith la (ad t)).length) (hl1 : la.length ≤ 15) (hl2 : (adWith la (ad t)).length ≤ 20) (hD0 : 0 < D.length) (hD20 : D.length ≤ 20) (hmd : E.md = nilS) (hsz : fs0.size = cap * 60) (hcap : cap ≤ maxLen) (hc1 : 1 ≤ cap) (hV0 : V ≠ 0) (hsb : sb = false) (hN1 : da.N ≠ 0) (hNt : dt.N ≠ 0) (hN2 : d2.N ≠ 0) (hd2 : (dPut ⟨ad a, da.N, da.B - V, da.ds⟩ false D).find? (fun x => x.adr == ad t) = some d2) (hB2 : d2.B < 256 ^ 100) (hll1 : (dPut ⟨ad a, da.N, da.B - V, da.ds⟩ false D).length ≤ 100) :
    Calls Salg.prog 27 #[.pointer (some ⟨c, 0, none⟩)] w fun e w' => e = .returned (.bool true) ∧ ∃ (fb' cap' : Nat) (cur : Array Value) (pv gv sv r7 cw sg vn iu a0 a1 a3 a6 vz' : Value), CallY 1 w' c fb' cap' { E with vz := vz' } cur fs0 pv gv sv r7 cw sg vn iu a0 a1 a3 a6 m ((G - 11600) - (min A ((G - 11600) - (G - 11600) / 64))) ((min A ((G - 11600) - (G - 11600) / 64)) + 2300) 2 t a sb dt.ds (adWith la (ad t)) (dPut ⟨ad t, d2.N, d2.B + V, d2.ds⟩ false (dPut ⟨ad a, da.N, da.B - V, da.ds⟩ false D)) ∧ NumV w' vn V ∧ (fb' = fbB ∨ wB.heap.size ≤ fb') ∧ Kept [c, fbB] wB w' := by
  obtain ⟨S, mv, hS⟩ := hE
  obtain ⟨cs, c1, c9, c10, c11, cn⟩ := hS.ch.row
  have emv : mv = nilS := by
    rcases hS.mm with ⟨_, h⟩ | ⟨_, _, _, _, _, h⟩
    · exact h
    · simp at h
  subst emv
  have hG2 : G < 256 ^ 100 := Nat.lt_trans hG (by decide)
  have hcw := hcv.keptN hS.k hH
  refine stepB_enter1 S rr c fb m G 11600 0 16 0 0 0 241 cs fs0 cap _ cv nilS ds (fun w' => FrameM S rr w' fb 0 fs0 m (G - 11600) [0, 0, 0, 0, V, t, A] nilS) _ (fun _ _ => True) w (by decide) c1 c9 c11 hS.sl hS.fr hcw hm hl sb hfc hkG (Nat.lt_of_lt_of_le hG2 (by decide)) ?_ ?_ ?_ family_call rfl ?_
  · intro w' K1
    have hF := hS.fr.kept K1
    refine refusalB_call _ fb 0 m G 11600 fs0 cv _ _ w' hF.toQ sb hfc (by simp) (by simp) hkG (fun hs w1 K2 => absurd (hsb.symm.trans hs) (by decide)) fun w1 K2 => ?_
    have hF1 := hF.kept K2
    obtain ⟨fs, f1, _, _, f9, _⟩ := hF1.row
    refine costM_no _ fb 0 241 11600 0 0 0 fs none 0 w1 f1 f9 (by decide) rfl (by decide) (by decide) (Nat.zero_le _) (fun w2 K3 => ?_) (fun w2 K3 => ?_)
    · have hF2 := (hF1.kept K3).toQ
      exact bareCost_call _ _ _ w2 (enterCostY_call_v c 2600 V t A fb 0 m G E _ rt la D dt fs0 _ w2 hF2 hT (hS.ch.kept ((K1.trans K2).trans K3)) ((AccD.still D) _ _ _ _ hA (hS.k.trans (((K1.trans K2).trans K3).mono (by simp))) hH) (by decide) hV0 hdt hNt (fun w3 K4 => access_Y c t E _ rt la w3 (hS.ch.kept (((K1.trans K2).trans K3).trans K4)) hT.lt hn2))
    · have hF2 := (hF1.kept K3).toQ
      exact (by have h := reachY_call 0 0 0 0 V t A fb 0 m G fs0 _ [] w2 hF2 (by simp) (by decide) (by decide) (by decide) (by decide); rw [show max (endN 0 0) (endN 0 0) = 0 from rfl] at h; exact h)
  · intro w' K1 hF
    exact (by have h := reachY_call 0 0 0 0 V t A fb 0 m (G - 11600) fs0 _ [] w' hF.toQ (by simp) (by decide) (by decide) (by decide) (by decide); rw [show max (endN 0 0) (endN 0 0) = 0 from rfl] at h; exact h)
  · intro w' r K1 hF hr
    obtain ⟨fs, f1, _, _, f9, _⟩ := hF.row
    refine (growM_no fb 0 0 0 0 fs none 0 r w' f1 f9 hr rfl (by decide) (by decide) (Nat.zero_le _)).mono ?_
    rintro e w3 ⟨r', rfl, K⟩
    exact ⟨r', rfl, hF.kept K, K.mono (by simp)⟩
  · intro w' K1 hF
    have hS2 := hS.frame K1 hF
    obtain ⟨wz, x1, x2⟩ := hS2.ch
    refine entersY_C c fb 0 _ w' _ x1 (Nat.le_of_ble_eq_true (by kernel_rfl)) fun w2 K2 hrow => ?_
    rw [show (chN E wz (.slice (some ⟨fb, 0, none⟩) 1 cap) rt).setIfInBounds 10 nilS = chN E wz (.slice (some ⟨fb, 0, none⟩) 1 cap) nilS from by kernel_rfl] at hrow
    have hX1 := hard1 x1 (.inl rfl) (chy_nb _ _ _ _)
    have hC2 : ChY w2 c E (.slice (some ⟨fb, 0, none⟩) 1 cap) nilS la := ⟨wz, hrow, AdsV.keptN' x2 K2 hX1⟩
    have k2 : Kept [c, fbB] wB w2 := hS2.k.trans (K2.mono (by simp))
    have hA2 : AccD D w2 E.vz := (AccD.still D) _ _ _ _ hA k2 hH
    have hF2 : FrameQ w2 fb 0 fs0 m (G - 11600) [0, 0, 0, 0, V, t, A] nilS := (hS2.fr.keptC K2 x1 (chy_nb _ _ _ _) (by decide) (by decide)).toQ
    refine (enterCall1_call_v c fb cap m (G - 11600) A t a b V sb E fs0 cv vv nilS la D da dt d2 w2 hC2 hA2 hF2 hfc hse ha hT hda hdt hB hVB hl0 hl1 hl2 hD0 hD20 hmd hsz hcap hc1 (by omega) (by omega) hV0 hN1 hN2 hd2 hB2 hll1).mono ?_
    rintro e w3 ⟨r, fb', cap', cur, pv, gv, sv, r7, cw, sg, vn, iu, a0, a1, a3, a6, vz, rfl, y1, y2, y3, y4, y5, y6, y7, y8, y9, y96, ya, yb, yc, yd, ye, yf, yg, yh, yi, yj, yk, yl, ym⟩
    refine ⟨r, rfl, fb', cap', cur, pv, gv, sv, r7, cw, sg, vn, iu, a0, a1, a3, a6, vz, ⟨y1, y2, y4, y5, y6, y7, y8, y9, y96, ya, yb, yc, yd, yf, yg, yh, yi, yj, yk, ye.one, yl⟩, ye, ?_, ?_⟩
    · rcases y3 with h | h
      · rw [h]
        exact hS2.b
      · exact .inr (Nat.le_trans k2.size h)
    · refine ⟨ym.os.trans k2.os, ym.tape.trans k2.tape, ym.output.trans k2.output, Nat.le_trans k2.size ym.size, fun i hi hx => ?_⟩
      rw [ym.block i (Nat.lt_of_lt_of_le hi k2.size) ?_]
      · exact k2.block i hi hx
      · simp at hx ⊢
        rcases hS2.b with hb | hb
        · rw [hb]
          exact hx
        · exact ⟨hx.1, by omega⟩
theorem stepY_delegatecall1 {wB : World} {c fbB : Nat} {E : XEnv} {rr fb cap : Nat} {fs0 : Array Value} {m G : Nat} {rt : Value} {rd : List Nat} {la : List (List Nat)} {w : World} {cv : Value} {ds : List Nat} {sb : Bool} (A t a b V : Nat) (vv : Value) (D : List AD) (da dt d2 : AD) (hE : StF wB c fbB E rr fb 0 1 cap fs0 m G [0, 0, 0, 0, t, A] [] 0 rt rd la w) (hH : Hard [c, fbB] wB) (hcv : NatV wB cv ds) (hfc : FrB fs0 0 sb cv) (hm : ds[m]? = some 244) (hl : ds.length ≤ 1000) (hm1 : m ≤ 900) (hkG : 2600 ≤ G) (hG : G < 1000000) (hse : fs0.extract (0 + 12) (0 + 12 + 20) = ((ad a).map n8).toArray) (hca : fs0.extract (0 + 32) (0 + 32 + 20) = ((ad b).map n8).toArray) (h5v : fs0[0 + 5]? = some vv) (hvv : vv.oneCell' = true) (ha : a < 256) (hT : TargetOK t) (hA : AccD D wB E.vz) (hda : D.find? (fun x => x.adr == ad a) = some da) (hdt : D.find? (fun x => x.adr == ad t) = some dt) (hB : da.B < 256 ^ 100) (hVB : V ≤ da.B) (hn2 : ad t ∉ la) (hl0 : 0 < (adWith la (ad t)).length) (hl1 : la.length ≤ 15) (hl2 : (adWith la (ad t)).length ≤ 20) (hD0 : 0 < D.length) (hD20 : D.length ≤ 20) (hmd : E.md = nilS) (hsz : fs0.size = cap * 60) (hcap : cap ≤ maxLen) (hc1 : 1 ≤ cap) :
    Calls Salg.prog 27 #[.pointer (some ⟨c, 0, none⟩)] w fun e w' => e = .returned (.bool true) ∧ ∃ (fb' cap' : Nat) (cur : Array Value) (pv gv sv r7 cw sg vn iu a0 a1 a3 a6 vz' : Value), CallY 1 w' c fb' cap' { E with vz := vz' } cur fs0 pv gv sv r7 cw sg vv iu a0 a1 a3 a6 m ((G - 2600) - (min A ((G - 2600) - (G - 2600) / 64))) (min A ((G - 2600) - (G - 2600) / 64)) 3 a b sb dt.ds (adWith la (ad t)) D ∧ True ∧ (fb' = fbB ∨ wB.heap.size ≤ fb') ∧ Kept [c, fbB] wB w' := by
  obtain ⟨S, mv, hS⟩ := hE
  obtain ⟨cs, c1, c9, c10, c11, cn⟩ := hS.ch.row
  have emv : mv = nilS := by
    rcases hS.mm with ⟨_, h⟩ | ⟨_, _, _, _, _, h⟩
    · exact h
    · simp at h
  subst emv
  have hG2 : G < 256 ^ 100 := Nat.lt_trans hG (by decide)
  have hcw := hcv.keptN hS.k hH
  refine stepB_enter1 S rr c fb m G 2600 0 16 0 0 0 244 cs fs0 cap _ cv nilS ds (fun w' => FrameM S rr w' fb 0 fs0 m (G - 2600) [0, 0, 0, 0, t, A] nilS) _ (fun _ _ => True) w (by decide) c1 c9 c11 hS.sl hS.fr hcw hm hl sb hfc hkG (Nat.lt_of_lt_of_le hG2 (by decide)) ?_ ?_ ?_ family_delegatecall rfl ?_
  · intro w' K1
    have hF := hS.fr.kept K1
    refine refusalB_delegatecall _ fb 0 m G 2600 fs0 cv _ _ w' hF.toQ sb hfc (by simp) (by simp) hkG fun w1 K2 => ?_
    have hF1 := hF.kept K2
    obtain ⟨fs, f1, _, _, f9, _⟩ := hF1.row
    refine costM_no _ fb 0 244 2600 0 0 0 fs none 0 w1 f1 f9 (by decide) rfl (by decide) (by decide) (Nat.zero_le _) (fun w2 K3 => ?_) (fun w2 K3 => ?_)
    · have hF2 := (hF1.kept K3).toQ
      exact bareCostY_delegatecall _ _ _ w2 (enterCostY_delegatecall c 2600 0 t A fb 0 m G E _ rt la D dt fs0 _ w2 hF2 hT (hS.ch.kept ((K1.trans K2).trans K3)) ((AccD.still D) _ _ _ _ hA (hS.k.trans (((K1.trans K2).trans K3).mono (by simp))) hH) (by decide) (fun w3 K4 => access_Y c t E _ rt la w3 (hS.ch.kept (((K1.trans K2).trans K3).trans K4)) hT.lt hn2))
    · have hF2 := (hF1.kept K3).toQ
      exact reach_delegate fb 0 A t m G fs0 _ [] w2 hF2 (by simp)
  · intro w' K1 hF
    exact reach_delegate fb 0 A t m (G - 2600) fs0 _ [] w' hF.toQ (by simp)
  · intro w' r K1 hF hr
    obtain ⟨fs, f1, _, _, f9, _⟩ := hF.row
    refine (growM_no fb 0 0 0 0 fs none 0 r w' f1 f9 hr rfl (by decide) (by decide) (Nat.zero_le _)).mono ?_
    rintro e w3 ⟨r', rfl, K⟩
    exact ⟨r', rfl, hF.kept K, K.mono (by simp)⟩
  · intro w' K1 hF
    have hS2 := hS.frame K1 hF
    obtain ⟨wz, x1, x2⟩ := hS2.ch
    refine entersY_DL c fb 0 _ w' _ x1 (Nat.le_of_ble_eq_true (by kernel_rfl)) fun w2 K2 hrow => ?_
    rw [show (chN E wz (.slice (some ⟨fb, 0, none⟩) 1 cap) rt).setIfInBounds 10 nilS = chN E wz (.slice (some ⟨fb, 0, none⟩) 1 cap) nilS from by kernel_rfl] at hrow
    have hX1 := hard1 x1 (.inl rfl) (chy_nb _ _ _ _)
    have hC2 : ChY w2 c E (.slice (some ⟨fb, 0, none⟩) 1 cap) nilS la := ⟨wz, hrow, AdsV.keptN' x2 K2 hX1⟩
    have k2 : Kept [c, fbB] wB w2 := hS2.k.trans (K2.mono (by simp))
    have hA2 : AccD D w2 E.vz := (AccD.still D) _ _ _ _ hA k2 hH
    have hF2 : FrameQ w2 fb 0 fs0 m (G - 2600) [0, 0, 0, 0, t, A] nilS := (hS2.fr.keptC K2 x1 (chy_nb _ _ _ _) (by decide) (by decide)).toQ
    refine (enterCall1_delegatecall c fb cap m (G - 2600) A t a b 0 sb E fs0 cv vv nilS la D da dt d2 w2 hC2 hA2 hF2 hfc hse hca h5v hvv ha hT hda hdt hB (Nat.zero_le _) hl0 hl1 hl2 hD0 hD20 hmd hsz hcap hc1 (by omega) (by omega)).mono ?_
    rintro e w3 ⟨r, fb', cap', cur, pv, gv, sv, r7, cw, sg, vn, iu, a0, a1, a3, a6, vz, rfl, y1, y2, y3, y4, y5, y6, y7, y8, y9, y96, ya, yb, yc, yd, ye, yf, yg, yh, yi, yj, yk, yl, ym⟩
    refine ⟨r, rfl, fb', cap', cur, pv, gv, sv, r7, cw, sg, vn, iu, a0, a1, a3, a6, vz, ⟨y1, y2, y4, y5, y6, y7, y8, y9, y96, ya, yb, yc, yd, yf, yg, yh, yi, yj, yk, hvv, yl⟩, ye, ?_, ?_⟩
    · rcases y3 with h | h
      · rw [h]
        exact hS2.b
      · exact .inr (Nat.le_trans k2.size h)
    · refine ⟨ym.os.trans k2.os, ym.tape.trans k2.tape, ym.output.trans k2.output, Nat.le_trans k2.size ym.size, fun i hi hx => ?_⟩
      rw [ym.block i (Nat.lt_of_lt_of_le hi k2.size) ?_]
      · exact k2.block i hi hx
      · simp at hx ⊢
        rcases hS2.b with hb | hb
        · rw [hb]
          exact hx
        · exact ⟨hx.1, by omega⟩
theorem stepY_staticcall1 {wB : World} {c fbB : Nat} {E : XEnv} {rr fb cap : Nat} {fs0 : Array Value} {m G : Nat} {rt : Value} {rd : List Nat} {la : List (List Nat)} {w : World} {cv : Value} {ds : List Nat} {sb : Bool} (A t a b V : Nat) (vv : Value) (D : List AD) (da dt d2 : AD) (hE : StF wB c fbB E rr fb 0 1 cap fs0 m G [0, 0, 0, 0, t, A] [] 0 rt rd la w) (hH : Hard [c, fbB] wB) (hcv : NatV wB cv ds) (hfc : FrB fs0 0 sb cv) (hm : ds[m]? = some 250) (hl : ds.length ≤ 1000) (hm1 : m ≤ 900) (hkG : 2600 ≤ G) (hG : G < 1000000) (hse : fs0.extract (0 + 12) (0 + 12 + 20) = ((ad a).map n8).toArray) (ha : a < 256) (hT : TargetOK t) (hA : AccD D wB E.vz) (hda : D.find? (fun x => x.adr == ad a) = some da) (hdt : D.find? (fun x => x.adr == ad t) = some dt) (hB : da.B < 256 ^ 100) (hVB : V ≤ da.B) (hn2 : ad t ∉ la) (hl0 : 0 < (adWith la (ad t)).length) (hl1 : la.length ≤ 15) (hl2 : (adWith la (ad t)).length ≤ 20) (hD0 : 0 < D.length) (hD20 : D.length ≤ 20) (hmd : E.md = nilS) (hsz : fs0.size = cap * 60) (hcap : cap ≤ maxLen) (hc1 : 1 ≤ cap) :
    Calls Salg.prog 27 #[.pointer (some ⟨c, 0, none⟩)] w fun e w' => e = .returned (.bool true) ∧ ∃ (fb' cap' : Nat) (cur : Array Value) (pv gv sv r7 cw sg vn iu a0 a1 a3 a6 vz' : Value), CallY 1 w' c fb' cap' { E with vz := vz' } cur fs0 pv gv sv r7 cw sg vn iu a0 a1 a3 a6 m ((G - 2600) - (min A ((G - 2600) - (G - 2600) / 64))) (min A ((G - 2600) - (G - 2600) / 64)) 4 t a true dt.ds (adWith la (ad t)) D ∧ NumV w' vn 0 ∧ (fb' = fbB ∨ wB.heap.size ≤ fb') ∧ Kept [c, fbB] wB w' := by
  obtain ⟨S, mv, hS⟩ := hE
  obtain ⟨cs, c1, c9, c10, c11, cn⟩ := hS.ch.row
  have emv : mv = nilS := by
    rcases hS.mm with ⟨_, h⟩ | ⟨_, _, _, _, _, h⟩
    · exact h
    · simp at h
  subst emv
  have hG2 : G < 256 ^ 100 := Nat.lt_trans hG (by decide)
  have hcw := hcv.keptN hS.k hH
  refine stepB_enter1 S rr c fb m G 2600 0 16 0 0 0 250 cs fs0 cap _ cv nilS ds (fun w' => FrameM S rr w' fb 0 fs0 m (G - 2600) [0, 0, 0, 0, t, A] nilS) _ (fun _ _ => True) w (by decide) c1 c9 c11 hS.sl hS.fr hcw hm hl sb hfc hkG (Nat.lt_of_lt_of_le hG2 (by decide)) ?_ ?_ ?_ family_staticcall rfl ?_
  · intro w' K1
    have hF := hS.fr.kept K1
    refine refusalB_staticcall _ fb 0 m G 2600 fs0 cv _ _ w' hF.toQ sb hfc (by simp) (by simp) hkG fun w1 K2 => ?_
    have hF1 := hF.kept K2
    obtain ⟨fs, f1, _, _, f9, _⟩ := hF1.row
    refine costM_no _ fb 0 250 2600 0 0 0 fs none 0 w1 f1 f9 (by decide) rfl (by decide) (by decide) (Nat.zero_le _) (fun w2 K3 => ?_) (fun w2 K3 => ?_)
    · have hF2 := (hF1.kept K3).toQ
      exact bareCostY_staticcall _ _ _ w2 (enterCostY_staticcall c 2600 0 t A fb 0 m G E _ rt la D dt fs0 _ w2 hF2 hT (hS.ch.kept ((K1.trans K2).trans K3)) ((AccD.still D) _ _ _ _ hA (hS.k.trans (((K1.trans K2).trans K3).mono (by simp))) hH) (by decide) (fun w3 K4 => access_Y c t E _ rt la w3 (hS.ch.kept (((K1.trans K2).trans K3).trans K4)) hT.lt hn2))
    · have hF2 := (hF1.kept K3).toQ
      exact reachY_static fb 0 A t m G fs0 _ [] w2 hF2 (by simp)
  · intro w' K1 hF
    exact reachY_static fb 0 A t m (G - 2600) fs0 _ [] w' hF.toQ (by simp)
  · intro w' r K1 hF hr
    obtain ⟨fs, f1, _, _, f9, _⟩ := hF.row
    refine (growM_no fb 0 0 0 0 fs none 0 r w' f1 f9 hr rfl (by decide) (by decide) (Nat.zero_le _)).mono ?_
    rintro e w3 ⟨r', rfl, K⟩
    exact ⟨r', rfl, hF.kept K, K.mono (by simp)⟩
  · intro w' K1 hF
    have hS2 := hS.frame K1 hF
    obtain ⟨wz, x1, x2⟩ := hS2.ch
    refine entersY_SC c fb 0 _ w' _ x1 (Nat.le_of_ble_eq_true (by kernel_rfl)) fun w2 K2 hrow => ?_
    rw [show (chN E wz (.slice (some ⟨fb, 0, none⟩) 1 cap) rt).setIfInBounds 10 nilS = chN E wz (.slice (some ⟨fb, 0, none⟩) 1 cap) nilS from by kernel_rfl] at hrow
    have hX1 := hard1 x1 (.inl rfl) (chy_nb _ _ _ _)
    have hC2 : ChY w2 c E (.slice (some ⟨fb, 0, none⟩) 1 cap) nilS la := ⟨wz, hrow, AdsV.keptN' x2 K2 hX1⟩
    have k2 : Kept [c, fbB] wB w2 := hS2.k.trans (K2.mono (by simp))
    have hA2 : AccD D w2 E.vz := (AccD.still D) _ _ _ _ hA k2 hH
    have hF2 : FrameQ w2 fb 0 fs0 m (G - 2600) [0, 0, 0, 0, t, A] nilS := (hS2.fr.keptC K2 x1 (chy_nb _ _ _ _) (by decide) (by decide)).toQ
    refine (enterCall1_staticcall c fb cap m (G - 2600) A t a b 0 sb E fs0 cv vv nilS la D da dt d2 w2 hC2 hA2 hF2 hfc hse ha hT hda hdt hB (Nat.zero_le _) hl0 hl1 hl2 hD0 hD20 hmd hsz hcap hc1 (by omega) (by omega)).mono ?_
    rintro e w3 ⟨r, fb', cap', cur, pv, gv, sv, r7, cw, sg, vn, iu, a0, a1, a3, a6, vz, rfl, y1, y2, y3, y4, y5, y6, y7, y8, y9, y96, ya, yb, yc, yd, ye, yf, yg, yh, yi, yj, yk, yl, ym⟩
    refine ⟨r, rfl, fb', cap', cur, pv, gv, sv, r7, cw, sg, vn, iu, a0, a1, a3, a6, vz, ⟨y1, y2, y4, y5, y6, y7, y8, y9, y96, ya, yb, yc, yd, yf, yg, yh, yi, yj, yk, ye.one, yl⟩, ye, ?_, ?_⟩
    · rcases y3 with h | h
      · rw [h]
        exact hS2.b
      · exact .inr (Nat.le_trans k2.size h)
    · refine ⟨ym.os.trans k2.os, ym.tape.trans k2.tape, ym.output.trans k2.output, Nat.le_trans k2.size ym.size, fun i hi hx => ?_⟩
      rw [ym.block i (Nat.lt_of_lt_of_le hi k2.size) ?_]
      · exact k2.block i hi hx
      · simp at hx ⊢
        rcases hS2.b with hb | hb
        · rw [hb]
          exact hx
        · exact ⟨hx.1, by omega⟩
theorem stepY_call2 {wB : World} {c fbB : Nat} {E : XEnv} {rr fb cap : Nat} {fs0 : Array Value} {m G : Nat} {rt : Value} {rd : List Nat} {la : List (List Nat)} {w : World} {cv : Value} {ds : List Nat} {sb : Bool} (A t a b V : Nat) (vv : Value) (D : List AD) (da dt d2 : AD) (hE : StF wB c fbB E rr fb 60 2 cap fs0 m G [0, 0, 0, 0, V, t, A] [] 0 rt rd la w) (hH : Hard [c, fbB] wB) (hcv : NatV wB cv ds) (hfc : FrB fs0 60 sb cv) (hm : ds[m]? = some 241) (hl : ds.length ≤ 1000) (hm1 : m ≤ 900) (hkG : 2600 ≤ G) (hG : G < 1000000) (hse : fs0.extract (60 + 12) (60 + 12 + 20) = ((ad a).map n8).toArray) (ha : a < 256) (hT : TargetOK t) (hA : AccD D wB E.vz) (hda : D.find? (fun x => x.adr == ad a) = some da) (hdt : D.find? (fun x => x.adr == ad t) = some dt) (hB : da.B < 256 ^ 100) (hVB : V ≤ da.B) (hn2 : ad t ∉ la) (hl0 : 0 < (adWith la (ad t)).length) (hl1 : la.length ≤ 15) (hl2 : (adWith la (ad t)).length ≤ 20) (hD0 : 0 < D.length) (hD20 : D.length ≤ 20) (hmd : E.md = nilS) (hsz : fs0.size = cap * 60) (hcap : cap ≤ maxLen) (hc1 : 2 ≤ cap) (hV0 : V = 0) :
    Calls Salg.prog 27 #[.pointer (some ⟨c, 0, none⟩)] w fun e w' => e = .returned (.bool true) ∧ ∃ (fb' cap' : Nat) (cur : Array Value) (pv gv sv r7 cw sg vn iu a0 a1 a3 a6 vz' : Value), CallY 2 w' c fb' cap' { E with vz := vz' } cur fs0 pv gv sv r7 cw sg vn iu a0 a1 a3 a6 m ((G - 2600) - (min A ((G - 2600) - (G - 2600) / 64))) (min A ((G - 2600) - (G - 2600) / 64)) 2 t a sb dt.ds (adWith la (ad t)) D ∧ NumV w' vn V ∧ (fb' = fbB ∨ wB.heap.size ≤ fb') ∧ Kept [c, fbB] wB w' := by
  obtain ⟨S, mv, hS⟩ := hE
  obtain ⟨cs, c1, c9, c10, c11, cn⟩ := hS.ch.row
  have emv : mv = nilS := by
    rcases hS.mm with ⟨_, h⟩ | ⟨_, _, _, _, _, h⟩
    · exact h
    · simp at h
  subst emv
  have hG2 : G < 256 ^ 100 := Nat.lt_trans hG (by decide)
  have hcw := hcv.keptN hS.k hH
  refine stepB_enter2 S rr c fb m G 2600 0 16 0 0 0 241 cs fs0 cap _ cv nilS ds (fun w' => FrameM S rr w' fb 60 fs0 m (G - 2600) [0, 0, 0, 0, V, t, A] nilS) _ (fun _ _ => True) w (by decide) c1 c9 c11 hS.sl hS.fr hcw hm hl sb hfc hkG (Nat.lt_of_lt_of_le hG2 (by decide)) ?_ ?_ ?_ family_call rfl ?_
  · intro w' K1
    have hF := hS.fr.kept K1
    refine refusalB_call _ fb 60 m G 2600 fs0 cv _ _ w' hF.toQ sb hfc (by simp) (by simp) hkG (fun hs w1 K2 => writes_call fb 60 m G V t A fs0 _ w1 (hF.kept K2).toQ hV0) fun w1 K2 => ?_
    have hF1 := hF.kept K2
    obtain ⟨fs, f1, _, _, f9, _⟩ := hF1.row
    refine costM_no _ fb 60 241 2600 0 0 0 fs none 0 w1 f1 f9 (by decide) rfl (by decide) (by decide) (Nat.zero_le _) (fun w2 K3 => ?_) (fun w2 K3 => ?_)
    · have hF2 := (hF1.kept K3).toQ
      exact bareCost_call _ _ _ w2 (enterCostY_call c 2600 V t A fb 60 m G E _ rt la D dt fs0 _ w2 hF2 hT (hS.ch.kept ((K1.trans K2).trans K3)) ((AccD.still D) _ _ _ _ hA (hS.k.trans (((K1.trans K2).trans K3).mono (by simp))) hH) (by decide) hV0 (fun w3 K4 => access_Y c t E _ rt la w3 (hS.ch.kept (((K1.trans K2).trans K3).trans K4)) hT.lt hn2))
    · have hF2 := (hF1.kept K3).toQ
      exact (by have h := reachY_call 0 0 0 0 V t A fb 60 m G fs0 _ [] w2 hF2 (by simp) (by decide) (by decide) (by decide) (by decide); rw [show max (endN 0 0) (endN 0 0) = 0 from rfl] at h; exact h)
  · intro w' K1 hF
    exact (by have h := reachY_call 0 0 0 0 V t A fb 60 m (G - 2600) fs0 _ [] w' hF.toQ (by simp) (by decide) (by decide) (by decide) (by decide); rw [show max (endN 0 0) (endN 0 0) = 0 from rfl] at h; exact h)
  · intro w' r K1 hF hr
    obtain ⟨fs, f1, _, _, f9, _⟩ := hF.row
    refine (growM_no fb 60 0 0 0 fs none 0 r w' f1 f9 hr rfl (by decide) (by decide) (Nat.zero_le _)).mono ?_
    rintro e w3 ⟨r', rfl, K⟩
    exact ⟨r', rfl, hF.kept K, K.mono (by simp)⟩
  · intro w' K1 hF
    have hS2 := hS.frame K1 hF
    obtain ⟨wz, x1, x2⟩ := hS2.ch
    refine entersY_C c fb 60 _ w' _ x1 (Nat.le_of_ble_eq_true (by kernel_rfl)) fun w2 K2 hrow => ?_
    rw [show (chN E wz (.slice (some ⟨fb, 0, none⟩) 2 cap) rt).setIfInBounds 10 nilS = chN E wz (.slice (some ⟨fb, 0, none⟩) 2 cap) nilS from by kernel_rfl] at hrow
    have hX1 := hard1 x1 (.inl rfl) (chy_nb _ _ _ _)
    have hC2 : ChY w2 c E (.slice (some ⟨fb, 0, none⟩) 2 cap) nilS la := ⟨wz, hrow, AdsV.keptN' x2 K2 hX1⟩
    have k2 : Kept [c, fbB] wB w2 := hS2.k.trans (K2.mono (by simp))
    have hA2 : AccD D w2 E.vz := (AccD.still D) _ _ _ _ hA k2 hH
    have hF2 : FrameQ w2 fb 60 fs0 m (G - 2600) [0, 0, 0, 0, V, t, A] nilS := (hS2.fr.keptC K2 x1 (chy_nb _ _ _ _) (by decide) (by decide)).toQ
    refine (enterCall2_call c fb cap m (G - 2600) A t a b V sb E fs0 cv vv nilS la D da dt d2 w2 hC2 hA2 hF2 hfc hse ha hT hda hdt hB hVB hl0 hl1 hl2 hD0 hD20 hmd hsz hcap hc1 (by omega) (by omega) hV0).mono ?_
    rintro e w3 ⟨r, fb', cap', cur, pv, gv, sv, r7, cw, sg, vn, iu, a0, a1, a3, a6, vz, rfl, y1, y2, y3, y4, y5, y6, y7, y8, y9, y96, ya, yb, yc, yd, ye, yf, yg, yh, yi, yj, yk, yl, ym⟩
    refine ⟨r, rfl, fb', cap', cur, pv, gv, sv, r7, cw, sg, vn, iu, a0, a1, a3, a6, vz, ⟨y1, y2, y4, y5, y6, y7, y8, y9, y96, ya, yb, yc, yd, yf, yg, yh, yi, yj, yk, ye.one, yl⟩, ye, ?_, ?_⟩
    · rcases y3 with h | h
      · rw [h]
        exact hS2.b
      · exact .inr (Nat.le_trans k2.size h)
    · refine ⟨ym.os.trans k2.os, ym.tape.trans k2.tape, ym.output.trans k2.output, Nat.le_trans k2.size ym.size, fun i hi hx => ?_⟩
      rw [ym.block i (Nat.lt_of_lt_of_le hi k2.size) ?_]
      · exact k2.block i hi hx
      · simp at hx ⊢
        rcases hS2.b with hb | hb
        · rw [hb]
          exact hx
        · exact ⟨hx.1, by omega⟩
theorem stepY_delegatecall2 {wB : World} {c fbB : Nat} {E : XEnv} {rr fb cap : Nat} {fs0 : Array Value} {m G : Nat} {rt : Value} {rd : List Nat} {la : List (List Nat)} {w : World} {cv : Value} {ds : List Nat} {sb : Bool} (A t a b V : Nat) (vv : Value) (D : List AD) (da dt d2 : AD) (hE : StF wB c fbB E rr fb 60 2 cap fs0 m G [0, 0, 0, 0, t, A] [] 0 rt rd la w) (hH : Hard [c, fbB] wB) (hcv : NatV wB cv ds) (hfc : FrB fs0 60 sb cv) (hm : ds[m]? = some 244) (hl : ds.length ≤ 1000) (hm1 : m ≤ 900) (hkG : 2600 ≤ G) (hG : G < 1000000) (hse : fs0.extract (60 + 12) (60 + 12 + 20) = ((ad a).map n8).toArray) (hca : fs0.extract (60 + 32) (60 + 32 + 20) = ((ad b).map n8).toArray) (h5v : fs0[60 + 5]? = some vv) (hvv : vv.oneCell' = true) (ha : a < 256) (hT : TargetOK t) (hA : AccD D wB E.vz) (hda : D.find? (fun x => x.adr == ad a) = some da) (hdt : D.find? (fun x => x.adr == ad t) = some dt) (hB : da.B < 256 ^ 100) (hVB : V ≤ da.B) (hn2 : ad t ∉ la) (hl0 : 0 < (adWith la (ad t)).length) (hl1 : la.length ≤ 15) (hl2 : (adWith la (ad t)).length ≤ 20) (hD0 : 0 < D.length) (hD20 : D.length ≤ 20) (hmd : E.md = nilS) (hsz : fs0.size = cap * 60) (hcap : cap ≤ maxLen) (hc1 : 2 ≤ cap) :
    Calls Salg.prog 27 #[.pointer (some ⟨c, 0, none⟩)] w fun e w' => e = .returned (.bool true) ∧ ∃ (fb' cap' : Nat) (cur : Array Value) (pv gv sv r7 cw sg vn iu a0 a1 a3 a6 vz' : Value), CallY 2 w' c fb' cap' { E with vz := vz' } cur fs0 pv gv sv r7 cw sg vv iu a0 a1 a3 a6 m ((G - 2600) - (min A ((G - 2600) - (G - 2600) / 64))) (min A ((G - 2600) - (G - 2600) / 64)) 3 a b sb dt.ds (adWith la (ad t)) D ∧ True ∧ (fb' = fbB ∨ wB.heap.size ≤ fb') ∧ Kept [c, fbB] wB w' := by
  obtain ⟨S, mv, hS⟩ := hE
  obtain ⟨cs, c1, c9, c10, c11, cn⟩ := hS.ch.row
  have emv : mv = nilS := by
    rcases hS.mm with ⟨_, h⟩ | ⟨_, _, _, _, _, h⟩
    · exact h
    · simp at h
  subst emv
  have hG2 : G < 256 ^ 100 := Nat.lt_trans hG (by decide)
  have hcw := hcv.keptN hS.k hH
  refine stepB_enter2 S rr c fb m G 2600 0 16 0 0 0 244 cs fs0 cap _ cv nilS ds (fun w' => FrameM S rr w' fb 60 fs0 m (G - 2600) [0, 0, 0, 0, t, A] nilS) _ (fun _ _ => True) w (by decide) c1 c9 c11 hS.sl hS.fr hcw hm hl sb hfc hkG (Nat.lt_of_lt_of_le hG2 (by decide)) ?_ ?_ ?_ family_delegatecall rfl ?_
  · intro w' K1
    have hF := hS.fr.kept K1
    refine refusalB_delegatecall _ fb 60 m G 2600 fs0 cv _ _ w' hF.toQ sb hfc (by simp) (by simp) hkG fun w1 K2 => ?_
    have hF1 := hF.kept K2
    obtain ⟨fs, f1, _, _, f9, _⟩ := hF1.row
    refine costM_no _ fb 60 244 2600 0 0 0 fs none 0 w1 f1 f9 (by decide) rfl (by decide) (by decide) (Nat.zero_le _) (fun w2 K3 => ?_) (fun w2 K3 => ?_)
    · have hF2 := (hF1.kept K3).toQ
      exact bareCostY_delegatecall _ _ _ w2 (enterCostY_delegatecall c 2600 0 t A fb 60 m G E _ rt la D dt fs0 _ w2 hF2 hT (hS.ch.kept ((K1.trans K2).trans K3)) ((AccD.still D) _ _ _ _ hA (hS.k.trans (((K1.trans K2).trans K3).mono (by simp))) hH) (by decide) (fun w3 K4 => access_Y c t E _ rt la w3 (hS.ch.kept (((K1.trans K2).trans K3).trans K4)) hT.lt hn2))
    · have hF2 := (hF1.kept K3).toQ
      exact reach_delegate fb 60 A t m G fs0 _ [] w2 hF2 (by simp)
  · intro w' K1 hF
    exact reach_delegate fb 60 A t m (G - 2600) fs0 _ [] w' hF.toQ (by simp)
  · intro w' r K1 hF hr
    obtain ⟨fs, f1, _, _, f9, _⟩ := hF.row
    refine (growM_no fb 60 0 0 0 fs none 0 r w' f1 f9 hr rfl (by decide) (by decide) (Nat.zero_le _)).mono ?_
    rintro e w3 ⟨r', rfl, K⟩
    exact ⟨r', rfl, hF.kept K, K.mono (by simp)⟩
  · intro w' K1 hF
    have hS2 := hS.frame K1 hF
    obtain ⟨wz, x1, x2⟩ := hS2.ch
    refine entersY_DL c fb 60 _ w' _ x1 (Nat.le_of_ble_eq_true (by kernel_rfl)) fun w2 K2 hrow => ?_
    rw [show (chN E wz (.slice (some ⟨fb, 0, none⟩) 2 cap) rt).setIfInBounds 10 nilS = chN E wz (.slice (some ⟨fb, 0, none⟩) 2 cap) nilS from by kernel_rfl] at hrow
    have hX1 := hard1 x1 (.inl rfl) (chy_nb _ _ _ _)
    have hC2 : ChY w2 c E (.slice (some ⟨fb, 0, none⟩) 2 cap) nilS la := ⟨wz, hrow, AdsV.keptN' x2 K2 hX1⟩
    have k2 : Kept [c, fbB] wB w2 := hS2.k.trans (K2.mono (by simp))
    have hA2 : AccD D w2 E.vz := (AccD.still D) _ _ _ _ hA k2 hH
    have hF2 : FrameQ w2 fb 60 fs0 m (G - 2600) [0, 0, 0, 0, t, A] nilS := (hS2.fr.keptC K2 x1 (chy_nb _ _ _ _) (by decide) (by decide)).toQ
    refine (enterCall2_delegatecall c fb cap m (G - 2600) A t a b 0 sb E fs0 cv vv nilS la D da dt d2 w2 hC2 hA2 hF2 hfc hse hca h5v hvv ha hT hda hdt hB (Nat.zero_le _) hl0 hl1 hl2 hD0 hD20 hmd hsz hcap hc1 (by omega) (by omega)).mono ?_
    rintro e w3 ⟨r, fb', cap', cur, pv, gv, sv, r7, cw, sg, vn, iu, a0, a1, a3, a6, vz, rfl, y1, y2, y3, y4, y5, y6, y7, y8, y9, y96, ya, yb, yc, yd, ye, yf, yg, yh, yi, yj, yk, yl, ym⟩
    refine ⟨r, rfl, fb', cap', cur, pv, gv, sv, r7, cw, sg, vn, iu, a0, a1, a3, a6, vz, ⟨y1, y2, y4, y5, y6, y7, y8, y9, y96, ya, yb, yc, yd, yf, yg, yh, yi, yj, yk, hvv, yl⟩, ye, ?_, ?_⟩
    · rcases y3 with h | h
      · rw [h]
        exact hS2.b
      · exact .inr (Nat.le_trans k2.size h)
    · refine ⟨ym.os.trans k2.os, ym.tape.trans k2.tape, ym.output.trans k2.output, Nat.le_trans k2.size ym.size, fun i hi hx => ?_⟩
      rw [ym.block i (Nat.lt_of_lt_of_le hi k2.size) ?_]
      · exact k2.block i hi hx
      · simp at hx ⊢
        rcases hS2.b with hb | hb
        · rw [hb]
          exact hx
        · exact ⟨hx.1, by omega⟩
end Go.Proofs.YgcsalGreat

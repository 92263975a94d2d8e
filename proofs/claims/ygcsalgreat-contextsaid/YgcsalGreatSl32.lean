/-
  The walk of (*yp.State).leave: a callee that ends well, reverts or fails; the outer frame that ends well.
-/
import Derived.Test.YgcsalGreatSl31
import Derived.Test.YgcsalGreatSl20
set_option linter.unusedSimpArgs false
set_option linter.unusedVariables false
namespace Go.Own
/-- A frame's cells with its changing cells laid. -/
def frS (l : List Value) (p g s m : Value) : List Value := (((l.set 3 p).set 4 g).set 8 s).set 9 m
theorem frS_get {l : List Value} {p g s m : Value} (hl : l.length = 60) {f : Nat → Option Value} (h : ∀ k, k < 60 → k ≠ 3 → k ≠ 4 → k ≠ 8 → k ≠ 9 → f k = l[k]?) (h3 : f 3 = some p) (h4 : f 4 = some g) (h8 : f 8 = some s) (h9 : f 9 = some m) : ∀ k, k < 60 → f k = (frS l p g s m)[k]? := by
  intro k hk
  unfold frS
  by_cases k9 : k = 9
  · subst k9; rw [h9, List.getElem?_set_self (by simp [hl])]
  rw [List.getElem?_set_ne (by omega)]
  by_cases k8 : k = 8
  · subst k8; rw [h8, List.getElem?_set_self (by simp [hl])]
  rw [List.getElem?_set_ne (by omega)]
  by_cases k4 : k = 4
  · subst k4; rw [h4, List.getElem?_set_self (by simp [hl])]
  rw [List.getElem?_set_ne (by omega)]
  by_cases k3 : k = 3
  · subst k3; rw [h3, List.getElem?_set_self (by simp [hl])]
  rw [List.getElem?_set_ne (by omega)]
  exact h k hk k3 k4 k8 k9
theorem frame_ext {fs : Array Value} {q : Nat} {l : List Value} (hl : l.length = 60) (hs : q + 60 ≤ fs.size) (h : ∀ k, k < 60 → fs[q + k]? = l[k]?) : fs.extract q (q + 60) = l.toArray := by
  apply Array.ext (by simp [hl]; omega)
  intro i h1 h2
  simp only [Array.getElem_extract, List.getElem_toArray]
  simp only [List.size_toArray] at h2
  have := h i (by omega)
  rw [Array.getElem?_eq_getElem (by omega), List.getElem?_eq_getElem h2] at this
  exact Option.some.inj this
theorem frS_one {l : List Value} {p g s m : Value} (h : ∀ u ∈ l, u.oneCell' = true) (h3 : p.oneCell' = true) (h4 : g.oneCell' = true) (h8 : s.oneCell' = true) (h9 : m.oneCell' = true) : ∀ u ∈ (frS l p g s m).toArray.toList, u.oneCell' = true := by
  intro u hu
  simp only [frS] at hu
  rcases List.mem_or_eq_of_mem_set hu with hu | rfl
  · rcases List.mem_or_eq_of_mem_set hu with hu | rfl
    · rcases List.mem_or_eq_of_mem_set hu with hu | rfl
      · rcases List.mem_or_eq_of_mem_set hu with hu | rfl
        · exact h _ hu
        · exact h3
      · exact h4
    · exact h8
  · exact h9
/-- The chain's row with the transaction ended. -/
def chE (vz wz mv rv rt : Value) (s : Nat) (lim gv lf pr tv : Value) : Array Value := (chL [vz, wz, mv, rv, nilS, nilS, nilS, nilS, nilS, nilS, rt, .int .u8 2, .int .u8 s, .int .u8 1, lim, gv, lf, pr, tv] (ad 240) z20).toArray
/-- The chain's row while its frames end. -/
def chM (vz wz mv rv fr rt : Value) (ph s : Nat) (lim gv lf pr tv : Value) : Array Value := (chL [vz, wz, mv, rv, nilS, nilS, nilS, nilS, nilS, fr, rt, .int .u8 ph, .int .u8 s, .int .u8 1, lim, gv, lf, pr, tv] (ad 240) z20).toArray
theorem chM_nb (vz wz mv rv fr rt : Value) (ph s : Nat) (lim gv lf pr tv : Value) : ∀ t l, Obj.cells (chM vz wz mv rv fr rt ph s lim gv lf pr tv) 119 (0, 0) ≠ R8 t l := not_bytes_at (i := 4) (p := none) (n := 0) (m := 0) (by kernel_rfl)
end Go.Own
namespace Go.Proofs.YgcsalGreat
open Go.RowKit Go.Own

set_option maxHeartbeats 4000000 in
set_option maxRecDepth 100000 in
theorem leave_ok (c fb cap m1 G1 m2 G2 : Nat) (cur : Array Value) (ns1 ns2 : List Nat) (la la' : List (List Nat)) (mo mo' : Option Nat) (so so' : Option (Nat × Nat)) (R R' : Nat) (ds1 ds2 : List Nat) (pv1 gv1 sv1 r7 sg vv cw a0 a1 a2 a3 mv1 mv2 : Value) (xs1 : List Value) (w : World) (hC : ChainV w c (.slice (some ⟨fb, 0, none⟩) 2 cap) la mo so R ds1 ds2) (hF : FrameQ w fb 60 cur m2 G2 ns2 mv2) (hcur : ∀ k, k < 60 → cur[60 + k]? = (frD sg vv cw nilS (wrow4 a0 a1 a2 a3))[k]?) (hP : PartsV w pv1 gv1 sv1 xs1 m1 G1 ns1) (p3 : cur[3]? = some pv1) (p4 : cur[4]? = some gv1) (p7 : cur[7]? = some r7) (p8 : cur[8]? = some sv1) (p9 : cur[9]? = some mv1) (hr7 : NumV w r7 0) (hW : WorldS w a0 a1 a2 a3 la' mo' so' R' ds1 ds2) (hsz : cur.size = cap * 60) (hcap : 2 ≤ cap) (hcap2 : cap ≤ maxLen) (hl : ns1.length ≤ 30) (hm : m1 ≤ 900) (hG1 : G1 < 256 ^ 100) (hG2 : G2 < 256 ^ 100) (o1 : sg.oneCell' = true) (o2 : vv.oneCell' = true) (o3 : cw.oneCell' = true) (o4 : mv2.oneCell' = true) :
    Calls Salg.prog 112 #[.pointer (some ⟨c, 0, none⟩), .int .u8 0, .slice none 0 0] w fun e w' => ∃ (r : Value) (fs1 : Array Value), e = .returned r ∧ ChainV w' c (.slice (some ⟨fb, 0, none⟩) 1 1) la mo so R ds1 ds2 ∧ FrameQ w' fb 0 fs1 (m1 + 1) (G1 + G2) (ns1 ++ [1]) mv1 ∧ (∀ k, k < 60 → fs1[k]? = cur[k]?) ∧ fs1.size = cur.size ∧ (∀ v ds, NatV w v ds → NatV w' v ds) ∧ Kept [c, fb] w w' := by
  have M := Mem.start w []
  obtain ⟨fs, pv2, gv2, sv2, xs2, hr, h0, h2, h3, h4, h5, h6, h7, h8, h9, ha⟩ := hF
  obtain ⟨vz, wz, mv, rv, lim, gv0, pr, tv, c1, c2, c3, c4, c5, c6⟩ := hC
  have hfc : fb ∉ [c] := row_ne c1 hr (by rintro h; cases h)
  have hcf : c ∉ [fb] := row_ne hr c1 (by rintro h; cases h)
  have hz : fs.size = cap * 60 := h0.trans hsz
  have HX : Hid (fs.extract 60 (60 + 60) = (frS (frD sg vv cw nilS (wrow4 a0 a1 a2 a3)) pv2 gv2 sv2 mv2).toArray) := frame_ext (by kernel_rfl) (by omega) (frS_get (f := fun k => fs[60 + k]?) (by kernel_rfl) (fun k k1 k3 k4 k8 k9 => (h2 (60 + k) (by omega) (by omega) (by omega) (by omega)).trans (hcur k k1)) h3 h5 h7 ha)
  obtain ⟨y0, y1, y2, y3⟩ := WorldW.one hW
  have H1 := hid (frS_one (frD_one4 o1 o2 o3 (iu := nilS) rfl y0 y1 y2 y3) h4.one h6.one h8.one o4)
  have q3 : fs[0 + 3]? = some pv1 := (h2 3 (by decide) (by decide) (by decide) (by decide)).trans p3
  have q4 : fs[0 + 4]? = some gv1 := (h2 4 (by decide) (by decide) (by decide) (by decide)).trans p4
  have q7 : fs[0 + 7]? = some r7 := (h2 7 (by decide) (by decide) (by decide) (by decide)).trans p7
  have q8 : fs[0 + 8]? = some sv1 := (h2 8 (by decide) (by decide) (by decide) (by decide)).trans p8
  have q9 : fs[0 + 9]? = some mv1 := (h2 9 (by decide) (by decide) (by decide) (by decide)).trans p9
  obtain ⟨pp1, nn1, kk1, rfl⟩ := rowV_slice hP.s
  have HNB := hid (not_bytes_at (tc := 142) q8)
  have HO := hid (chM_nb vz wz mv rv (.slice (some ⟨fb, 0, none⟩) 2 cap) nilS 1 0 lim gv0 nilS pr tv)
  replace c1 : w.heap[c]? = some (.cells (chM vz wz mv rv (.slice (some ⟨fb, 0, none⟩) 2 cap) nilS 1 0 lim gv0 nilS pr tv) 119 (0, 0)) := c1
  have HX2 := hid h2
  have HWC := hid c2
  have HC3 := hid c3
  have HC4 := hid c4
  have HC5 := hid c5
  have HPP := hid hP
  have HR7 := hid hr7
  have HG2 := hid h6
  have HD : Hid (∀ v ds, NatV w v ds → NatV w v ds) := fun v ds h => h
  have HK : Hid (Kept [c, fb] w w) := Kept.refl _ _
  have hfl := lt_of_row hr
  have hcl := lt_of_row c1
  have z4 : 4 < fs.size := by omega
  clear h2 h3 h4 h5 h6 h7 h8 h9 ha c2 c3 c4 c5 hP hr7 hW y0 y1 y2 y3 hcur h0
  go_enter Salg.func112, Salg.ntmps112
  go_wp2_with fail
  refine S_region (by kernel_rfl) ?_
  refine E_float 0 13 [0, 1, 2, 3, 4, 5, 6, 7, 8, 9, 10, 11] 12 6 _ (by kernel_rfl) ⟨⟨_, _, _, _, _, rfl, zero142, rfl⟩⟩ (by simp) M.drew ?_
  clear M
  simp only [List.filterMap_cons, List.filterMap_nil, List.getElem?_cons_zero, List.getElem?_cons_succ]
  ((with_reducible apply E_run); rfl; rfl; (intro w M; go_simp; (try go_ints); (try simp only [↓IntWalk.iteOmega]); (try with_reducible rfl)); simp only [Act.put, List.setIfInBounds_toArray, List.set_cons_zero, List.set_cons_succ])
  ((with_reducible apply E_run); rfl; rfl; (intro w M; go_simp; (try go_ints); (try simp only [↓IntWalk.iteOmega]); (try with_reducible rfl)); simp only [Act.put, List.setIfInBounds_toArray, List.set_cons_zero, List.set_cons_succ])
  ((with_reducible apply E_run); rfl; rfl; (intro w M; go_simp; (try go_ints); (try simp only [↓IntWalk.iteOmega]); (try with_reducible rfl)); simp only [Act.put, List.setIfInBounds_toArray, List.set_cons_zero, List.set_cons_succ])
  ((with_reducible apply E_run); rfl; rfl; (intro w M; exact run_loadCell (M.kept.row c1 (by simp)) rfl (show (chM vz wz mv rv (.slice (some ⟨fb, 0, none⟩) 2 cap) nilS 1 0 lim gv0 nilS pr tv)[9]? = some (.slice (some ⟨fb, 0, none⟩) 2 cap) by kernel_rfl) Salg.underlying115 rfl); simp only [Act.put, List.setIfInBounds_toArray, List.set_cons_zero, List.set_cons_succ])
  ((with_reducible apply E_run); rfl; rfl; (intro w M; go_simp; (try go_ints); (try simp only [↓IntWalk.iteOmega]); (try with_reducible rfl)); simp only [Act.put, List.setIfInBounds_toArray, List.set_cons_zero, List.set_cons_succ])
  ((with_reducible apply E_run); rfl; rfl; (intro w M; go_simp; (try go_ints); (try simp only [↓IntWalk.iteOmega]); (try with_reducible rfl)); simp only [Act.put, List.setIfInBounds_toArray, List.set_cons_zero, List.set_cons_succ])
  ((with_reducible apply E_run); rfl; rfl; (intro w M; go_simp; (try go_ints); (try simp only [↓IntWalk.iteOmega]); (try with_reducible rfl)); simp only [Act.put, List.setIfInBounds_toArray, List.set_cons_zero, List.set_cons_succ])
  ((with_reducible apply E_run); rfl; rfl; (intro w M; exact run_loadCell (M.kept.row c1 (by simp)) rfl (show (chM vz wz mv rv (.slice (some ⟨fb, 0, none⟩) 2 cap) nilS 1 0 lim gv0 nilS pr tv)[9]? = some (.slice (some ⟨fb, 0, none⟩) 2 cap) by kernel_rfl) Salg.underlying115 rfl); simp only [Act.put, List.setIfInBounds_toArray, List.set_cons_zero, List.set_cons_succ])
  ((with_reducible apply E_run); rfl; rfl; (intro w M; go_simp; (try go_ints); (try simp only [↓IntWalk.iteOmega]); (try with_reducible rfl)); simp only [Act.put, List.setIfInBounds_toArray, List.set_cons_zero, List.set_cons_succ])
  ((with_reducible apply E_run); rfl; rfl; (intro w M; go_simp; (try go_ints); (try simp only [↓IntWalk.iteOmega]); (try with_reducible rfl)); simp only [Act.put, List.setIfInBounds_toArray, List.set_cons_zero, List.set_cons_succ])
  ((with_reducible apply E_run); rfl; rfl; (intro w M; go_simp; (try go_ints); (try simp only [↓IntWalk.iteOmega]); (try with_reducible rfl)); simp only [Act.put, List.setIfInBounds_toArray, List.set_cons_zero, List.set_cons_succ])
  ((with_reducible apply E_run (v := .agg (frS (frD sg vv cw nilS (wrow4 a0 a1 a2 a3)) pv2 gv2 sv2 mv2).toArray)); rfl; rfl; (intro w M; exact run_loadX (n := 60) (M.kept.row hr (by simp)) rfl Salg.underlying142 rfl size142 (by omega) HX.out); simp only [Act.put, List.setIfInBounds_toArray, List.set_cons_zero, List.set_cons_succ])
  refine E_nil ?_
  intro w1 K1 M
  clear K1
  intro t6 w2 K1 ht6 M
  clear K1
  simp only [Act.put, List.setIfInBounds_toArray, List.set_cons_zero, List.set_cons_succ]
  refine S_seg 13 14 (by kernel_rfl) (by decide) ?_
  simp only [List.take_succ_cons, List.take_zero, List.drop_zero, List.drop_succ_cons, Nat.sub_zero, Nat.reduceSub]
  go_wp2_with ((with_reducible apply W_storeK (b := t6) (vs := (frS (frD sg vv cw nilS (wrow4 a0 a1 a2 a3)) pv2 gv2 sv2 mv2).toArray)); rfl; rfl; exact M.r0; exact size142; rfl; exact H1.out; intro w3 K1 hr3; replace M := Mem.callPut (L1 := []) M (Or.inr ht6) K1 hr3; clear K1 hr3; simp only [List.nil_append] at M)
  refine S_done ?_
  go_wp2_with (first
    | ((with_reducible apply W_loadCell); rfl; exact M.r0; exact (show (frS (frD sg vv cw nilS (wrow4 a0 a1 a2 a3)) pv2 gv2 sv2 mv2).toArray[4]? = some gv2 by kernel_rfl); exact Salg.underlying89; rfl; simp only [Act.put, List.setIfInBounds_toArray, List.set_cons_zero, List.set_cons_succ])
    | ((with_reducible apply W_loadCell); rfl; exact M.r0; exact (show (frS (frD sg vv cw nilS (wrow4 a0 a1 a2 a3)) pv2 gv2 sv2 mv2).toArray[0]? = some (.int .u8 3) by kernel_rfl); exact Salg.underlying5; rfl; simp only [Act.put, List.setIfInBounds_toArray, List.set_cons_zero, List.set_cons_succ]))
  refine (creates_three _).mono ?_
  rintro e w4 ⟨rfl, hw⟩
  replace hw := hw.symm
  subst hw
  have H6 := hid M.r0
  have h6c : t6 ∉ [c] := by simp; omega
  have h6f : t6 ∉ [fb] := by simp; omega
  replace c1 := M.kept.row c1 (by simp)
  replace hr := M.kept.row hr (by simp)
  replace HWC := hid (WorldW.kept HWC.out M.kept)
  replace HC3 := hid (HC3.out.kept M.kept)
  replace HC4 := hid (HC4.out.kept M.kept)
  replace HC5 := hid (HC5.out.kept M.kept)
  replace HPP := hid (HPP.out.kept M.kept)
  replace HR7 := hid (HR7.out.kept M.kept)
  replace HG2 := hid (HG2.out.kept M.kept)
  replace HD : Hid (∀ v ds, NatV w v ds → NatV w3 v ds) := fun v ds h => h.kept M.kept
  replace HK : Hid (Kept [c, fb] w w3) := M.kept.mono (by simp)
  clear M
  go_wp2_with ((with_reducible apply W_stV (b := c) (o := 10) (v := nilS)); rfl; rfl; exact rfl; exact c1; exact size40; exact Nat.le_of_ble_eq_true (by kernel_rfl); intro w6 K1 hr1; rw [show (chM vz wz mv rv (.slice (some ⟨fb, 0, none⟩) 2 cap) nilS 1 0 lim gv0 nilS pr tv).setIfInBounds 10 (nilS) = (chM vz wz mv rv (.slice (some ⟨fb, 0, none⟩) 2 cap) nilS 1 0 lim gv0 nilS pr tv) from by kernel_rfl] at hr1)
  replace HWC := hid (WorldW.keptC HWC.out K1 c1 HO.out wtype119)
  replace HC3 := hid (HC3.out.keptC K1 c1 HO.out)
  replace HC4 := hid (HC4.out.keptC K1 c1 HO.out)
  replace HC5 := hid (HC5.out.keptC K1 c1 HO.out)
  replace HPP := hid (HPP.out.keptC K1 c1 HO.out (by decide))
  replace HR7 := hid (HR7.out.keptC K1 c1 HO.out)
  replace HG2 := hid (HG2.out.keptC K1 c1 HO.out)
  replace HD : Hid (∀ v ds, NatV w v ds → NatV w6 v ds) := fun v ds h => (HD.out v ds h).keptC K1 c1 HO.out
  replace HK : Hid (Kept [c, fb] w w6) := HK.out.trans ((K1.mono (by simp)))
  replace hr := K1.row hr hfc
  replace H6 := hid (K1.row H6.out h6c)
  replace c1 := hr1
  clear K1 hr1
  have M := Mem.start w6 []
  refine S_region (by kernel_rfl) ?_
  refine E_stage 0 18 [0, 1, 2, 3, 4, 5, 6, 7, 8, 9, 10, 11, 12, 13, 14, 15, 16, 17] (by kernel_rfl) M.drew ?_
  clear M
  simp only [List.filterMap_cons, List.filterMap_nil, List.getElem?_cons_zero, List.getElem?_cons_succ]
  ((with_reducible apply E_run); rfl; rfl; (intro w M; go_simp; (try go_ints); (try simp only [↓IntWalk.iteOmega]); (try with_reducible rfl)); simp only [Act.put, List.setIfInBounds_toArray, List.set_cons_zero, List.set_cons_succ])
  ((with_reducible apply E_run); rfl; rfl; (intro w M; go_simp; (try go_ints); (try simp only [↓IntWalk.iteOmega]); (try with_reducible rfl)); simp only [Act.put, List.setIfInBounds_toArray, List.set_cons_zero, List.set_cons_succ])
  ((with_reducible apply E_run); rfl; rfl; (intro w M; go_simp; (try go_ints); (try simp only [↓IntWalk.iteOmega]); (try with_reducible rfl)); simp only [Act.put, List.setIfInBounds_toArray, List.set_cons_zero, List.set_cons_succ])
  ((with_reducible apply E_run); rfl; rfl; (intro w M; go_simp; (try go_ints); (try simp only [↓IntWalk.iteOmega]); (try with_reducible rfl)); simp only [Act.put, List.setIfInBounds_toArray, List.set_cons_zero, List.set_cons_succ])
  ((with_reducible apply E_run); rfl; rfl; (intro w M; exact run_loadCell (M.kept.row c1 (by simp)) rfl (show (chM vz wz mv rv (.slice (some ⟨fb, 0, none⟩) 2 cap) nilS 1 0 lim gv0 nilS pr tv)[9]? = some (.slice (some ⟨fb, 0, none⟩) 2 cap) by kernel_rfl) Salg.underlying115 rfl); simp only [Act.put, List.setIfInBounds_toArray, List.set_cons_zero, List.set_cons_succ])
  ((with_reducible apply E_run); rfl; rfl; (intro w M; go_simp; (try go_ints); (try simp only [↓IntWalk.iteOmega]); (try with_reducible rfl)); simp only [Act.put, List.setIfInBounds_toArray, List.set_cons_zero, List.set_cons_succ])
  ((with_reducible apply E_run); rfl; rfl; (intro w M; go_simp; (try go_ints); (try simp only [↓IntWalk.iteOmega]); (try with_reducible rfl)); simp only [Act.put, List.setIfInBounds_toArray, List.set_cons_zero, List.set_cons_succ])
  ((with_reducible apply E_run); rfl; rfl; (intro w M; go_simp; (try go_ints); (try simp only [↓IntWalk.iteOmega]); (try with_reducible rfl)); simp only [Act.put, List.setIfInBounds_toArray, List.set_cons_zero, List.set_cons_succ])
  ((with_reducible apply E_run); rfl; rfl; (intro w M; exact run_loadCell (M.kept.row c1 (by simp)) rfl (show (chM vz wz mv rv (.slice (some ⟨fb, 0, none⟩) 2 cap) nilS 1 0 lim gv0 nilS pr tv)[9]? = some (.slice (some ⟨fb, 0, none⟩) 2 cap) by kernel_rfl) Salg.underlying115 rfl); simp only [Act.put, List.setIfInBounds_toArray, List.set_cons_zero, List.set_cons_succ])
  ((with_reducible apply E_run); rfl; rfl; (intro w M; go_simp; (try go_ints); (try simp only [↓IntWalk.iteOmega]); (try with_reducible rfl)); simp only [Act.put, List.setIfInBounds_toArray, List.set_cons_zero, List.set_cons_succ])
  ((with_reducible apply E_run); rfl; rfl; (intro w M; go_simp; (try go_ints); (try simp only [↓IntWalk.iteOmega]); (try with_reducible rfl)); simp only [Act.put, List.setIfInBounds_toArray, List.set_cons_zero, List.set_cons_succ])
  ((with_reducible apply E_run); rfl; rfl; (intro w M; go_simp; (try go_ints); (try simp only [↓IntWalk.iteOmega]); (try with_reducible rfl)); simp only [Act.put, List.setIfInBounds_toArray, List.set_cons_zero, List.set_cons_succ])
  ((with_reducible apply E_run); rfl; rfl; (intro w M; go_simp; (try go_ints); (try simp only [↓IntWalk.iteOmega]); (try with_reducible rfl)); simp only [Act.put, List.setIfInBounds_toArray, List.set_cons_zero, List.set_cons_succ])
  ((with_reducible apply E_run); rfl; rfl; (intro w M; go_simp; (try go_ints); (try simp only [↓IntWalk.iteOmega]); (try with_reducible rfl)); simp only [Act.put, List.setIfInBounds_toArray, List.set_cons_zero, List.set_cons_succ])
  ((with_reducible apply E_run); rfl; rfl; (intro w M; exact run_loadCell (M.kept.row c1 (by simp)) rfl (show (chM vz wz mv rv (.slice (some ⟨fb, 0, none⟩) 2 cap) nilS 1 0 lim gv0 nilS pr tv)[9]? = some (.slice (some ⟨fb, 0, none⟩) 2 cap) by kernel_rfl) Salg.underlying115 rfl); simp only [Act.put, List.setIfInBounds_toArray, List.set_cons_zero, List.set_cons_succ])
  ((with_reducible apply E_run); rfl; rfl; (intro w M; go_simp; (try go_ints); (try simp only [↓IntWalk.iteOmega]); (try with_reducible rfl)); simp only [Act.put, List.setIfInBounds_toArray, List.set_cons_zero, List.set_cons_succ])
  ((with_reducible apply E_run); rfl; rfl; (intro w M; go_simp; (try go_ints); (try simp only [↓IntWalk.iteOmega]); (try with_reducible rfl)); simp only [Act.put, List.setIfInBounds_toArray, List.set_cons_zero, List.set_cons_succ])
  ((with_reducible apply E_run); rfl; rfl; (intro w M; exact run_slice3 (n := 1) rfl rfl rfl (by omega) (by omega) Salg.underlying115 ⟨60, size142⟩ (by omega)); simp only [Act.put, List.setIfInBounds_toArray, List.set_cons_zero, List.set_cons_succ])
  refine E_nil ?_
  intro w7 K M
  clear K
  have c1' := M.kept.row c1 (by simp)
  refine S_seg 18 21 (by kernel_rfl) (by decide) ?_
  simp only [List.take_succ_cons, List.take_zero, List.drop_zero, List.drop_succ_cons, Nat.sub_zero, Nat.reduceSub]
  go_wp2_with ((with_reducible apply W_stV (b := c) (o := 9) (v := .slice (some ⟨fb, 0, none⟩) 1 1)); rfl; rfl; exact rfl; exact c1'; exact size115; exact Nat.le_of_ble_eq_true (by kernel_rfl); intro w8 K1 hr1; rw [show (chM vz wz mv rv (.slice (some ⟨fb, 0, none⟩) 2 cap) nilS 1 0 lim gv0 nilS pr tv).setIfInBounds 9 (.slice (some ⟨fb, 0, none⟩) 1 1) = (chM vz wz mv rv (.slice (some ⟨fb, 0, none⟩) 1 1) nilS 1 0 lim gv0 nilS pr tv) from by kernel_rfl] at hr1)
  replace HWC := hid (WorldW.keptC (WorldW.kept HWC.out M.kept) K1 c1' HO.out wtype119)
  replace HC3 := hid ((HC3.out.kept M.kept).keptC K1 c1' HO.out)
  replace HC4 := hid ((HC4.out.kept M.kept).keptC K1 c1' HO.out)
  replace HC5 := hid ((HC5.out.kept M.kept).keptC K1 c1' HO.out)
  replace HPP := hid ((HPP.out.kept M.kept).keptC K1 c1' HO.out (by decide))
  replace HR7 := hid ((HR7.out.kept M.kept).keptC K1 c1' HO.out)
  replace HG2 := hid ((HG2.out.kept M.kept).keptC K1 c1' HO.out)
  replace HD : Hid (∀ v ds, NatV w v ds → NatV w8 v ds) := fun v ds h => ((HD.out v ds h).kept M.kept).keptC K1 c1' HO.out
  replace HK : Hid (Kept [c, fb] w w8) := HK.out.trans ((M.kept.mono (by simp)).trans (K1.mono (by simp)))
  replace hr := K1.row (M.kept.row hr (by simp)) hfc
  replace c1 := hr1
  clear K1 hr1 M c1'
  have M := Mem.start w8 []
  refine S_done ?_
  go_wp2_with ((with_reducible apply W_loadCell); rfl; exact M.kept.row c1 (by simp); exact (show (chM vz wz mv rv (.slice (some ⟨fb, 0, none⟩) 1 1) nilS 1 0 lim gv0 nilS pr tv)[9]? = some (.slice (some ⟨fb, 0, none⟩) 1 1) by kernel_rfl); exact Salg.underlying115; rfl; simp only [Act.put, List.setIfInBounds_toArray, List.set_cons_zero, List.set_cons_succ])
  refine S_region (by kernel_rfl) ?_
  refine E_stage 0 12 [0, 1, 2, 3, 4, 5, 6, 7, 8, 9, 10, 11] (by kernel_rfl) M.drew ?_
  clear M
  simp only [List.filterMap_cons, List.filterMap_nil, List.getElem?_cons_zero, List.getElem?_cons_succ]
  ((with_reducible apply E_run); rfl; rfl; (intro w M; go_simp; (try go_ints); (try simp only [↓IntWalk.iteOmega]); (try with_reducible rfl)); simp only [Act.put, List.setIfInBounds_toArray, List.set_cons_zero, List.set_cons_succ])
  ((with_reducible apply E_run); rfl; rfl; (intro w M; go_simp; (try go_ints); (try simp only [↓IntWalk.iteOmega]); (try with_reducible rfl)); simp only [Act.put, List.setIfInBounds_toArray, List.set_cons_zero, List.set_cons_succ])
  ((with_reducible apply E_run); rfl; rfl; (intro w M; go_simp; (try go_ints); (try simp only [↓IntWalk.iteOmega]); (try with_reducible rfl)); simp only [Act.put, List.setIfInBounds_toArray, List.set_cons_zero, List.set_cons_succ])
  ((with_reducible apply E_run); rfl; rfl; (intro w M; exact run_loadCell (M.kept.row c1 (by simp)) rfl (show (chM vz wz mv rv (.slice (some ⟨fb, 0, none⟩) 1 1) nilS 1 0 lim gv0 nilS pr tv)[9]? = some (.slice (some ⟨fb, 0, none⟩) 1 1) by kernel_rfl) Salg.underlying115 rfl); simp only [Act.put, List.setIfInBounds_toArray, List.set_cons_zero, List.set_cons_succ])
  ((with_reducible apply E_run); rfl; rfl; (intro w M; go_simp; (try go_ints); (try simp only [↓IntWalk.iteOmega]); (try with_reducible rfl)); simp only [Act.put, List.setIfInBounds_toArray, List.set_cons_zero, List.set_cons_succ])
  ((with_reducible apply E_run); rfl; rfl; (intro w M; go_simp; (try go_ints); (try simp only [↓IntWalk.iteOmega]); (try with_reducible rfl)); simp only [Act.put, List.setIfInBounds_toArray, List.set_cons_zero, List.set_cons_succ])
  ((with_reducible apply E_run); rfl; rfl; (intro w M; go_simp; (try go_ints); (try simp only [↓IntWalk.iteOmega]); (try with_reducible rfl)); simp only [Act.put, List.setIfInBounds_toArray, List.set_cons_zero, List.set_cons_succ])
  ((with_reducible apply E_run); rfl; rfl; (intro w M; exact run_loadCell (M.kept.row c1 (by simp)) rfl (show (chM vz wz mv rv (.slice (some ⟨fb, 0, none⟩) 1 1) nilS 1 0 lim gv0 nilS pr tv)[9]? = some (.slice (some ⟨fb, 0, none⟩) 1 1) by kernel_rfl) Salg.underlying115 rfl); simp only [Act.put, List.setIfInBounds_toArray, List.set_cons_zero, List.set_cons_succ])
  ((with_reducible apply E_run); rfl; rfl; (intro w M; go_simp; (try go_ints); (try simp only [↓IntWalk.iteOmega]); (try with_reducible rfl)); simp only [Act.put, List.setIfInBounds_toArray, List.set_cons_zero, List.set_cons_succ])
  ((with_reducible apply E_run); rfl; rfl; (intro w M; go_simp; (try go_ints); (try simp only [↓IntWalk.iteOmega]); (try with_reducible rfl)); simp only [Act.put, List.setIfInBounds_toArray, List.set_cons_zero, List.set_cons_succ])
  ((with_reducible apply E_run); rfl; rfl; (intro w M; go_simp; (try go_ints); (try simp only [↓IntWalk.iteOmega]); (try with_reducible rfl)); simp only [Act.put, List.setIfInBounds_toArray, List.set_cons_zero, List.set_cons_succ])
  ((with_reducible apply E_run); rfl; rfl; (intro w M; go_simp; (try go_ints); (try simp only [↓IntWalk.iteOmega]); (try with_reducible rfl)); simp only [Act.put, List.setIfInBounds_toArray, List.set_cons_zero, List.set_cons_succ])
  refine E_nil ?_
  intro w9 K M
  clear K
  refine S_done ?_
  go_wp2_with ((with_reducible apply W_loadCell); rfl; exact M.kept.row hr (by simp); exact q4; exact Salg.underlying89; rfl; simp only [Act.put, List.setIfInBounds_toArray, List.set_cons_zero, List.set_cons_succ])
  refine (add_num gv1 gv2 G1 G2 _ (HPP.out.g.kept M.kept) (HG2.out.kept M.kept) (by omega) (by omega)).mono ?_
  rintro e w10 ⟨gs, rfl, xHGS, K⟩
  have HGS := hid xHGS
  replace M := M.call K
  clear K xHGS
  have hrow := M.kept.row hr (by simp)
  go_wp2_with ((with_reducible apply W_stV (b := fb) (o := 4) (v := gs)); rfl; rfl; exact HGS.out.one; exact hrow; exact size89; exact z4; intro w11 K1 hr11)
  replace HWC := hid (WorldW.keptC (WorldW.kept HWC.out M.kept) K1 hrow HNB.out wtype142)
  replace HC3 := hid ((HC3.out.kept M.kept).keptC K1 hrow HNB.out)
  replace HC4 := hid ((HC4.out.kept M.kept).keptC K1 hrow HNB.out)
  replace HC5 := hid ((HC5.out.kept M.kept).keptC K1 hrow HNB.out)
  replace HPP := hid ((HPP.out.kept M.kept).keptC K1 hrow HNB.out (by decide))
  replace HR7 := hid ((HR7.out.kept M.kept).keptC K1 hrow HNB.out)
  replace HD : Hid (∀ v ds, NatV w v ds → NatV w11 v ds) := fun v ds h => ((HD.out v ds h).kept M.kept).keptC K1 hrow HNB.out
  replace HK : Hid (Kept [c, fb] w w11) := HK.out.trans ((M.kept.mono (by simp)).trans (K1.mono (by simp)))
  replace HGS := hid (HGS.out.keptC K1 hrow HNB.out)
  replace c1 := K1.row (M.kept.row c1 (by simp)) hcf
  clear K1 M hrow hr HG2
  have M := Mem.start w11 []
  have q7' : (fs.setIfInBounds 4 gs)[0 + 7]? = some r7 := (Array.getElem?_setIfInBounds_ne (by decide)).trans q7
  refine (num_int _ 1 rfl (by decide) _).mono ?_
  rintro e w12 ⟨fv, rfl, xHFV, K⟩
  have HFV := hid xHFV
  replace M := M.call K
  clear K xHFV
  go_wp2_with ((with_reducible apply W_loadCell); rfl; exact M.kept.row hr11 (by simp); exact q7'; exact Salg.underlying89; rfl; simp only [Act.put, List.setIfInBounds_toArray, List.set_cons_zero, List.set_cons_succ])
  refine (small_any r7 0 _ (HR7.out.kept M.kept) (by decide)).mono ?_
  rintro e w13 ⟨rfl, hw⟩
  replace hw := hw.symm
  subst hw
  go_wp2_with fail
  have HNB2 := hid (not_bytes_at (tc := 142) (cs := fs.setIfInBounds 4 gs) (i := 0 + 8) ((Array.getElem?_setIfInBounds_ne (by decide)).trans q8))
  have hxl1 := HPP.out.n.1
  have hrow := M.kept.row hr11 (by simp)
  refine (answer_any fb 0 m1 0 1 (fs.setIfInBounds 4 gs) pv1 _ fv xs1 _ hrow ((Array.getElem?_setIfInBounds_ne (by decide)).trans q3) (HPP.out.p.kept M.kept) ((Array.getElem?_setIfInBounds_ne (by decide)).trans q8) (HPP.out.s.kept M.kept) HFV.out (by omega) (by omega) (by omega)).mono ?_
  rintro e w14 ⟨r14, v', pv', rfl, K1, hr14, x1, x2⟩
  have HSV := hid x1
  have HPV := hid x2
  have HFV2 := hid (HFV.out.keptC K1 hrow HNB2.out)
  replace HGS := hid ((HGS.out.kept M.kept).keptC K1 hrow HNB2.out)
  replace HWC := hid (WorldW.keptC (WorldW.kept HWC.out M.kept) K1 hrow HNB2.out wtype142)
  replace HC3 := hid ((HC3.out.kept M.kept).keptC K1 hrow HNB2.out)
  replace HC4 := hid ((HC4.out.kept M.kept).keptC K1 hrow HNB2.out)
  replace HC5 := hid ((HC5.out.kept M.kept).keptC K1 hrow HNB2.out)
  replace HPP := hid ((HPP.out.kept M.kept).keptC K1 hrow HNB2.out (by decide))
  replace HR7 := hid ((HR7.out.kept M.kept).keptC K1 hrow HNB2.out)
  replace HD : Hid (∀ v ds, NatV w v ds → NatV w14 v ds) := fun v ds h => ((HD.out v ds h).kept M.kept).keptC K1 hrow HNB2.out
  replace HK : Hid (Kept [c, fb] w w14) := HK.out.trans ((M.kept.mono (by simp)).trans (K1.mono (by simp)))
  replace c1 := K1.row (M.kept.row c1 (by simp)) hcf
  clear K1 M hrow hr11 x1 x2
  go_wp2_with fail
  go_end0
  refine ⟨_, fs, rfl, ⟨vz, wz, mv, rv, lim, gv0, pr, tv, c1, HWC.out, HC3.out, HC4.out, HC5.out, c6⟩, ⟨_, pv', gs, v', xs1.take (xs1.length - 0) ++ [fv], hr14, by simp only [Array.size_setIfInBounds], fun k k3 k4 k8 k9 => by rw [Array.getElem?_setIfInBounds_ne (by omega), Array.getElem?_setIfInBounds_ne (by omega), Array.getElem?_setIfInBounds_ne (by omega)], Array.getElem?_setIfInBounds_self_of_lt (by simp; omega), HPV.out, by rw [Array.getElem?_setIfInBounds_ne (by omega), Array.getElem?_setIfInBounds_ne (by omega), Array.getElem?_setIfInBounds_self_of_lt z4], HGS.out, by rw [Array.getElem?_setIfInBounds_ne (by omega), Array.getElem?_setIfInBounds_self_of_lt (by simp; omega)], HSV.out, ?_, by rw [Array.getElem?_setIfInBounds_ne (by omega), Array.getElem?_setIfInBounds_ne (by omega), Array.getElem?_setIfInBounds_ne (by omega)]; exact q9⟩, fun k hk => HX2.out k (by omega) (by omega) (by omega) (by omega), hz.trans hsz.symm, HD.out, HK.out⟩
  rw [Nat.sub_zero, List.take_length]
  exact HPP.out.n.push HFV2.out

set_option maxHeartbeats 4000000 in
set_option maxRecDepth 100000 in
theorem leave_revert (c fb cap m1 G1 m2 G2 : Nat) (cur : Array Value) (ns1 ns2 : List Nat) (la la' : List (List Nat)) (mo mo' : Option Nat) (so so' : Option (Nat × Nat)) (R R' : Nat) (ds1 ds2 : List Nat) (pv1 gv1 sv1 r7 sg vv cw a0 a1 a2 a3 mv1 mv2 : Value) (xs1 : List Value) (w : World) (hC : ChainV w c (.slice (some ⟨fb, 0, none⟩) 2 cap) la mo so R ds1 ds2) (hF : FrameQ w fb 60 cur m2 G2 ns2 mv2) (hcur : ∀ k, k < 60 → cur[60 + k]? = (frD sg vv cw nilS (wrow4 a0 a1 a2 a3))[k]?) (hP : PartsV w pv1 gv1 sv1 xs1 m1 G1 ns1) (p3 : cur[3]? = some pv1) (p4 : cur[4]? = some gv1) (p7 : cur[7]? = some r7) (p8 : cur[8]? = some sv1) (p9 : cur[9]? = some mv1) (hr7 : NumV w r7 0) (hW : WorldS w a0 a1 a2 a3 la' mo' so' R' ds1 ds2) (hsz : cur.size = cap * 60) (hcap : 2 ≤ cap) (hcap2 : cap ≤ maxLen) (hl : ns1.length ≤ 30) (hm : m1 ≤ 900) (hG1 : G1 < 256 ^ 100) (hG2 : G2 < 256 ^ 100) (o1 : sg.oneCell' = true) (o2 : vv.oneCell' = true) (o3 : cw.oneCell' = true) (o4 : mv2.oneCell' = true) :
    Calls Salg.prog 112 #[.pointer (some ⟨c, 0, none⟩), .int .u8 1, .slice none 0 0] w fun e w' => ∃ (r : Value) (fs1 : Array Value), e = .returned r ∧ ChainV w' c (.slice (some ⟨fb, 0, none⟩) 1 1) la' mo' so' R' ds1 ds2 ∧ FrameQ w' fb 0 fs1 (m1 + 1) (G1 + G2) (ns1 ++ [0]) mv1 ∧ (∀ k, k < 60 → fs1[k]? = cur[k]?) ∧ fs1.size = cur.size ∧ (∀ v ds, NatV w v ds → NatV w' v ds) ∧ Kept [c, fb] w w' := by
  have M := Mem.start w []
  obtain ⟨fs, pv2, gv2, sv2, xs2, hr, h0, h2, h3, h4, h5, h6, h7, h8, h9, ha⟩ := hF
  obtain ⟨vz, wz, mv, rv, lim, gv0, pr, tv, c1, c2, c3, c4, c5, c6⟩ := hC
  have hfc : fb ∉ [c] := row_ne c1 hr (by rintro h; cases h)
  have hcf : c ∉ [fb] := row_ne hr c1 (by rintro h; cases h)
  have hz : fs.size = cap * 60 := h0.trans hsz
  have HX : Hid (fs.extract 60 (60 + 60) = (frS (frD sg vv cw nilS (wrow4 a0 a1 a2 a3)) pv2 gv2 sv2 mv2).toArray) := frame_ext (by kernel_rfl) (by omega) (frS_get (f := fun k => fs[60 + k]?) (by kernel_rfl) (fun k k1 k3 k4 k8 k9 => (h2 (60 + k) (by omega) (by omega) (by omega) (by omega)).trans (hcur k k1)) h3 h5 h7 ha)
  obtain ⟨y0, y1, y2, y3⟩ := WorldW.one hW
  have H1 := hid (frS_one (frD_one4 o1 o2 o3 (iu := nilS) rfl y0 y1 y2 y3) h4.one h6.one h8.one o4)
  have q3 : fs[0 + 3]? = some pv1 := (h2 3 (by decide) (by decide) (by decide) (by decide)).trans p3
  have q4 : fs[0 + 4]? = some gv1 := (h2 4 (by decide) (by decide) (by decide) (by decide)).trans p4
  have q7 : fs[0 + 7]? = some r7 := (h2 7 (by decide) (by decide) (by decide) (by decide)).trans p7
  have q8 : fs[0 + 8]? = some sv1 := (h2 8 (by decide) (by decide) (by decide) (by decide)).trans p8
  have q9 : fs[0 + 9]? = some mv1 := (h2 9 (by decide) (by decide) (by decide) (by decide)).trans p9
  obtain ⟨pp1, nn1, kk1, rfl⟩ := rowV_slice hP.s
  have HNB := hid (not_bytes_at (tc := 142) q8)
  have HO := hid (chM_nb vz wz mv rv (.slice (some ⟨fb, 0, none⟩) 2 cap) nilS 1 0 lim gv0 nilS pr tv)
  replace c1 : w.heap[c]? = some (.cells (chM vz wz mv rv (.slice (some ⟨fb, 0, none⟩) 2 cap) nilS 1 0 lim gv0 nilS pr tv) 119 (0, 0)) := c1
  have HX2 := hid h2
  have HWC := hid hW
  have HONE := hid (wrow4_oneL y0 y1 y2 y3)
  have HC3 := hid c3
  have HC4 := hid c4
  have HC5 := hid c5
  have HPP := hid hP
  have HR7 := hid hr7
  have HG2 := hid h6
  have HD : Hid (∀ v ds, NatV w v ds → NatV w v ds) := fun v ds h => h
  have HK : Hid (Kept [c, fb] w w) := Kept.refl _ _
  have hfl := lt_of_row hr
  have hcl := lt_of_row c1
  have z4 : 4 < fs.size := by omega
  clear h2 h3 h4 h5 h6 h7 h8 h9 ha c2 c3 c4 c5 hP hr7 hW y0 y1 y2 y3 hcur h0
  go_enter Salg.func112, Salg.ntmps112
  go_wp2_with fail
  refine S_region (by kernel_rfl) ?_
  refine E_float 0 13 [0, 1, 2, 3, 4, 5, 6, 7, 8, 9, 10, 11] 12 6 _ (by kernel_rfl) ⟨⟨_, _, _, _, _, rfl, zero142, rfl⟩⟩ (by simp) M.drew ?_
  clear M
  simp only [List.filterMap_cons, List.filterMap_nil, List.getElem?_cons_zero, List.getElem?_cons_succ]
  ((with_reducible apply E_run); rfl; rfl; (intro w M; go_simp; (try go_ints); (try simp only [↓IntWalk.iteOmega]); (try with_reducible rfl)); simp only [Act.put, List.setIfInBounds_toArray, List.set_cons_zero, List.set_cons_succ])
  ((with_reducible apply E_run); rfl; rfl; (intro w M; go_simp; (try go_ints); (try simp only [↓IntWalk.iteOmega]); (try with_reducible rfl)); simp only [Act.put, List.setIfInBounds_toArray, List.set_cons_zero, List.set_cons_succ])
  ((with_reducible apply E_run); rfl; rfl; (intro w M; go_simp; (try go_ints); (try simp only [↓IntWalk.iteOmega]); (try with_reducible rfl)); simp only [Act.put, List.setIfInBounds_toArray, List.set_cons_zero, List.set_cons_succ])
  ((with_reducible apply E_run); rfl; rfl; (intro w M; exact run_loadCell (M.kept.row c1 (by simp)) rfl (show (chM vz wz mv rv (.slice (some ⟨fb, 0, none⟩) 2 cap) nilS 1 0 lim gv0 nilS pr tv)[9]? = some (.slice (some ⟨fb, 0, none⟩) 2 cap) by kernel_rfl) Salg.underlying115 rfl); simp only [Act.put, List.setIfInBounds_toArray, List.set_cons_zero, List.set_cons_succ])
  ((with_reducible apply E_run); rfl; rfl; (intro w M; go_simp; (try go_ints); (try simp only [↓IntWalk.iteOmega]); (try with_reducible rfl)); simp only [Act.put, List.setIfInBounds_toArray, List.set_cons_zero, List.set_cons_succ])
  ((with_reducible apply E_run); rfl; rfl; (intro w M; go_simp; (try go_ints); (try simp only [↓IntWalk.iteOmega]); (try with_reducible rfl)); simp only [Act.put, List.setIfInBounds_toArray, List.set_cons_zero, List.set_cons_succ])
  ((with_reducible apply E_run); rfl; rfl; (intro w M; go_simp; (try go_ints); (try simp only [↓IntWalk.iteOmega]); (try with_reducible rfl)); simp only [Act.put, List.setIfInBounds_toArray, List.set_cons_zero, List.set_cons_succ])
  ((with_reducible apply E_run); rfl; rfl; (intro w M; exact run_loadCell (M.kept.row c1 (by simp)) rfl (show (chM vz wz mv rv (.slice (some ⟨fb, 0, none⟩) 2 cap) nilS 1 0 lim gv0 nilS pr tv)[9]? = some (.slice (some ⟨fb, 0, none⟩) 2 cap) by kernel_rfl) Salg.underlying115 rfl); simp only [Act.put, List.setIfInBounds_toArray, List.set_cons_zero, List.set_cons_succ])
  ((with_reducible apply E_run); rfl; rfl; (intro w M; go_simp; (try go_ints); (try simp only [↓IntWalk.iteOmega]); (try with_reducible rfl)); simp only [Act.put, List.setIfInBounds_toArray, List.set_cons_zero, List.set_cons_succ])
  ((with_reducible apply E_run); rfl; rfl; (intro w M; go_simp; (try go_ints); (try simp only [↓IntWalk.iteOmega]); (try with_reducible rfl)); simp only [Act.put, List.setIfInBounds_toArray, List.set_cons_zero, List.set_cons_succ])
  ((with_reducible apply E_run); rfl; rfl; (intro w M; go_simp; (try go_ints); (try simp only [↓IntWalk.iteOmega]); (try with_reducible rfl)); simp only [Act.put, List.setIfInBounds_toArray, List.set_cons_zero, List.set_cons_succ])
  ((with_reducible apply E_run (v := .agg (frS (frD sg vv cw nilS (wrow4 a0 a1 a2 a3)) pv2 gv2 sv2 mv2).toArray)); rfl; rfl; (intro w M; exact run_loadX (n := 60) (M.kept.row hr (by simp)) rfl Salg.underlying142 rfl size142 (by omega) HX.out); simp only [Act.put, List.setIfInBounds_toArray, List.set_cons_zero, List.set_cons_succ])
  refine E_nil ?_
  intro w1 K1 M
  clear K1
  intro t6 w2 K1 ht6 M
  clear K1
  simp only [Act.put, List.setIfInBounds_toArray, List.set_cons_zero, List.set_cons_succ]
  refine S_seg 13 14 (by kernel_rfl) (by decide) ?_
  simp only [List.take_succ_cons, List.take_zero, List.drop_zero, List.drop_succ_cons, Nat.sub_zero, Nat.reduceSub]
  go_wp2_with ((with_reducible apply W_storeK (b := t6) (vs := (frS (frD sg vv cw nilS (wrow4 a0 a1 a2 a3)) pv2 gv2 sv2 mv2).toArray)); rfl; rfl; exact M.r0; exact size142; rfl; exact H1.out; intro w3 K1 hr3; replace M := Mem.callPut (L1 := []) M (Or.inr ht6) K1 hr3; clear K1 hr3; simp only [List.nil_append] at M)
  refine S_done ?_
  go_wp2_with (first
    | ((with_reducible apply W_loadCell); rfl; exact M.r0; exact (show (frS (frD sg vv cw nilS (wrow4 a0 a1 a2 a3)) pv2 gv2 sv2 mv2).toArray[4]? = some gv2 by kernel_rfl); exact Salg.underlying89; rfl; simp only [Act.put, List.setIfInBounds_toArray, List.set_cons_zero, List.set_cons_succ])
    | ((with_reducible apply W_loadCell); rfl; exact M.r0; exact (show (frS (frD sg vv cw nilS (wrow4 a0 a1 a2 a3)) pv2 gv2 sv2 mv2).toArray[0]? = some (.int .u8 3) by kernel_rfl); exact Salg.underlying5; rfl; simp only [Act.put, List.setIfInBounds_toArray, List.set_cons_zero, List.set_cons_succ]))
  refine (creates_three _).mono ?_
  rintro e w4 ⟨rfl, hw⟩
  replace hw := hw.symm
  subst hw
  have H6 := hid M.r0
  have h6c : t6 ∉ [c] := by simp; omega
  have h6f : t6 ∉ [fb] := by simp; omega
  replace c1 := M.kept.row c1 (by simp)
  replace hr := M.kept.row hr (by simp)
  replace HWC := hid (WorldW.kept HWC.out M.kept)
  replace HC3 := hid (HC3.out.kept M.kept)
  replace HC4 := hid (HC4.out.kept M.kept)
  replace HC5 := hid (HC5.out.kept M.kept)
  replace HPP := hid (HPP.out.kept M.kept)
  replace HR7 := hid (HR7.out.kept M.kept)
  replace HG2 := hid (HG2.out.kept M.kept)
  replace HD : Hid (∀ v ds, NatV w v ds → NatV w3 v ds) := fun v ds h => h.kept M.kept
  replace HK : Hid (Kept [c, fb] w w3) := M.kept.mono (by simp)
  clear M
  go_wp2_with (first
    | ((with_reducible apply W_loadX (n := 8) (vs := (wrow4 a0 a1 a2 a3).toArray)); rfl; exact H6.out; exact Salg.underlying113; rfl; exact size113; exact Nat.le_of_ble_eq_true (by kernel_rfl); exact (show (frS (frD sg vv cw nilS (wrow4 a0 a1 a2 a3)) pv2 gv2 sv2 mv2).toArray.extract 52 (52 + 8) = _ by kernel_rfl); simp only [Act.put, List.setIfInBounds_toArray, List.set_cons_zero, List.set_cons_succ])
    | ((with_reducible apply W_stP (b := c) (o := 0) (n := 8) (v := .agg (wrow4 a0 a1 a2 a3).toArray) (rs := (chM a0 a1 a2 a3 (.slice (some ⟨fb, 0, none⟩) 2 cap) nilS 1 0 lim gv0 nilS pr tv))); rfl; rfl; exact c1; exact size113; rfl; exact HONE.out; exact Nat.le_of_ble_eq_true (by kernel_rfl); kernel_rfl; intro w5 K0 hr0)
    | ((with_reducible apply W_stV (b := c) (o := 10) (v := nilS)); rfl; rfl; exact rfl; exact hr0; exact size40; exact Nat.le_of_ble_eq_true (by kernel_rfl); intro w6 K1 hr1; rw [show (chM a0 a1 a2 a3 (.slice (some ⟨fb, 0, none⟩) 2 cap) nilS 1 0 lim gv0 nilS pr tv).setIfInBounds 10 (nilS) = (chM a0 a1 a2 a3 (.slice (some ⟨fb, 0, none⟩) 2 cap) nilS 1 0 lim gv0 nilS pr tv) from by kernel_rfl] at hr1))
  replace HWC := hid (WorldW.keptC HWC.out K0 c1 HO.out wtype119)
  replace HC3 := hid (HC3.out.keptC K0 c1 HO.out)
  replace HC4 := hid (HC4.out.keptC K0 c1 HO.out)
  replace HC5 := hid (HC5.out.keptC K0 c1 HO.out)
  replace HPP := hid (HPP.out.keptC K0 c1 HO.out (by decide))
  replace HR7 := hid (HR7.out.keptC K0 c1 HO.out)
  replace HG2 := hid (HG2.out.keptC K0 c1 HO.out)
  replace HD : Hid (∀ v ds, NatV w v ds → NatV w5 v ds) := fun v ds h => (HD.out v ds h).keptC K0 c1 HO.out
  replace HK : Hid (Kept [c, fb] w w5) := HK.out.trans ((K0.mono (by simp)))
  replace hr := K0.row hr hfc
  replace H6 := hid (K0.row H6.out h6c)
  replace HO := hid (chM_nb a0 a1 a2 a3 (.slice (some ⟨fb, 0, none⟩) 2 cap) nilS 1 0 lim gv0 nilS pr tv)
  replace c1 := hr0
  clear K0 hr0
  replace HWC := hid (WorldW.keptC HWC.out K1 c1 HO.out wtype119)
  replace HC3 := hid (HC3.out.keptC K1 c1 HO.out)
  replace HC4 := hid (HC4.out.keptC K1 c1 HO.out)
  replace HC5 := hid (HC5.out.keptC K1 c1 HO.out)
  replace HPP := hid (HPP.out.keptC K1 c1 HO.out (by decide))
  replace HR7 := hid (HR7.out.keptC K1 c1 HO.out)
  replace HG2 := hid (HG2.out.keptC K1 c1 HO.out)
  replace HD : Hid (∀ v ds, NatV w v ds → NatV w6 v ds) := fun v ds h => (HD.out v ds h).keptC K1 c1 HO.out
  replace HK : Hid (Kept [c, fb] w w6) := HK.out.trans ((K1.mono (by simp)))
  replace hr := K1.row hr hfc
  replace H6 := hid (K1.row H6.out h6c)
  replace c1 := hr1
  clear K1 hr1
  have M := Mem.start w6 []
  refine S_region (by kernel_rfl) ?_
  refine E_stage 0 18 [0, 1, 2, 3, 4, 5, 6, 7, 8, 9, 10, 11, 12, 13, 14, 15, 16, 17] (by kernel_rfl) M.drew ?_
  clear M
  simp only [List.filterMap_cons, List.filterMap_nil, List.getElem?_cons_zero, List.getElem?_cons_succ]
  ((with_reducible apply E_run); rfl; rfl; (intro w M; go_simp; (try go_ints); (try simp only [↓IntWalk.iteOmega]); (try with_reducible rfl)); simp only [Act.put, List.setIfInBounds_toArray, List.set_cons_zero, List.set_cons_succ])
  ((with_reducible apply E_run); rfl; rfl; (intro w M; go_simp; (try go_ints); (try simp only [↓IntWalk.iteOmega]); (try with_reducible rfl)); simp only [Act.put, List.setIfInBounds_toArray, List.set_cons_zero, List.set_cons_succ])
  ((with_reducible apply E_run); rfl; rfl; (intro w M; go_simp; (try go_ints); (try simp only [↓IntWalk.iteOmega]); (try with_reducible rfl)); simp only [Act.put, List.setIfInBounds_toArray, List.set_cons_zero, List.set_cons_succ])
  ((with_reducible apply E_run); rfl; rfl; (intro w M; go_simp; (try go_ints); (try simp only [↓IntWalk.iteOmega]); (try with_reducible rfl)); simp only [Act.put, List.setIfInBounds_toArray, List.set_cons_zero, List.set_cons_succ])
  ((with_reducible apply E_run); rfl; rfl; (intro w M; exact run_loadCell (M.kept.row c1 (by simp)) rfl (show (chM a0 a1 a2 a3 (.slice (some ⟨fb, 0, none⟩) 2 cap) nilS 1 0 lim gv0 nilS pr tv)[9]? = some (.slice (some ⟨fb, 0, none⟩) 2 cap) by kernel_rfl) Salg.underlying115 rfl); simp only [Act.put, List.setIfInBounds_toArray, List.set_cons_zero, List.set_cons_succ])
  ((with_reducible apply E_run); rfl; rfl; (intro w M; go_simp; (try go_ints); (try simp only [↓IntWalk.iteOmega]); (try with_reducible rfl)); simp only [Act.put, List.setIfInBounds_toArray, List.set_cons_zero, List.set_cons_succ])
  ((with_reducible apply E_run); rfl; rfl; (intro w M; go_simp; (try go_ints); (try simp only [↓IntWalk.iteOmega]); (try with_reducible rfl)); simp only [Act.put, List.setIfInBounds_toArray, List.set_cons_zero, List.set_cons_succ])
  ((with_reducible apply E_run); rfl; rfl; (intro w M; go_simp; (try go_ints); (try simp only [↓IntWalk.iteOmega]); (try with_reducible rfl)); simp only [Act.put, List.setIfInBounds_toArray, List.set_cons_zero, List.set_cons_succ])
  ((with_reducible apply E_run); rfl; rfl; (intro w M; exact run_loadCell (M.kept.row c1 (by simp)) rfl (show (chM a0 a1 a2 a3 (.slice (some ⟨fb, 0, none⟩) 2 cap) nilS 1 0 lim gv0 nilS pr tv)[9]? = some (.slice (some ⟨fb, 0, none⟩) 2 cap) by kernel_rfl) Salg.underlying115 rfl); simp only [Act.put, List.setIfInBounds_toArray, List.set_cons_zero, List.set_cons_succ])
  ((with_reducible apply E_run); rfl; rfl; (intro w M; go_simp; (try go_ints); (try simp only [↓IntWalk.iteOmega]); (try with_reducible rfl)); simp only [Act.put, List.setIfInBounds_toArray, List.set_cons_zero, List.set_cons_succ])
  ((with_reducible apply E_run); rfl; rfl; (intro w M; go_simp; (try go_ints); (try simp only [↓IntWalk.iteOmega]); (try with_reducible rfl)); simp only [Act.put, List.setIfInBounds_toArray, List.set_cons_zero, List.set_cons_succ])
  ((with_reducible apply E_run); rfl; rfl; (intro w M; go_simp; (try go_ints); (try simp only [↓IntWalk.iteOmega]); (try with_reducible rfl)); simp only [Act.put, List.setIfInBounds_toArray, List.set_cons_zero, List.set_cons_succ])
  ((with_reducible apply E_run); rfl; rfl; (intro w M; go_simp; (try go_ints); (try simp only [↓IntWalk.iteOmega]); (try with_reducible rfl)); simp only [Act.put, List.setIfInBounds_toArray, List.set_cons_zero, List.set_cons_succ])
  ((with_reducible apply E_run); rfl; rfl; (intro w M; go_simp; (try go_ints); (try simp only [↓IntWalk.iteOmega]); (try with_reducible rfl)); simp only [Act.put, List.setIfInBounds_toArray, List.set_cons_zero, List.set_cons_succ])
  ((with_reducible apply E_run); rfl; rfl; (intro w M; exact run_loadCell (M.kept.row c1 (by simp)) rfl (show (chM a0 a1 a2 a3 (.slice (some ⟨fb, 0, none⟩) 2 cap) nilS 1 0 lim gv0 nilS pr tv)[9]? = some (.slice (some ⟨fb, 0, none⟩) 2 cap) by kernel_rfl) Salg.underlying115 rfl); simp only [Act.put, List.setIfInBounds_toArray, List.set_cons_zero, List.set_cons_succ])
  ((with_reducible apply E_run); rfl; rfl; (intro w M; go_simp; (try go_ints); (try simp only [↓IntWalk.iteOmega]); (try with_reducible rfl)); simp only [Act.put, List.setIfInBounds_toArray, List.set_cons_zero, List.set_cons_succ])
  ((with_reducible apply E_run); rfl; rfl; (intro w M; go_simp; (try go_ints); (try simp only [↓IntWalk.iteOmega]); (try with_reducible rfl)); simp only [Act.put, List.setIfInBounds_toArray, List.set_cons_zero, List.set_cons_succ])
  ((with_reducible apply E_run); rfl; rfl; (intro w M; exact run_slice3 (n := 1) rfl rfl rfl (by omega) (by omega) Salg.underlying115 ⟨60, size142⟩ (by omega)); simp only [Act.put, List.setIfInBounds_toArray, List.set_cons_zero, List.set_cons_succ])
  refine E_nil ?_
  intro w7 K M
  clear K
  have c1' := M.kept.row c1 (by simp)
  refine S_seg 18 21 (by kernel_rfl) (by decide) ?_
  simp only [List.take_succ_cons, List.take_zero, List.drop_zero, List.drop_succ_cons, Nat.sub_zero, Nat.reduceSub]
  go_wp2_with ((with_reducible apply W_stV (b := c) (o := 9) (v := .slice (some ⟨fb, 0, none⟩) 1 1)); rfl; rfl; exact rfl; exact c1'; exact size115; exact Nat.le_of_ble_eq_true (by kernel_rfl); intro w8 K1 hr1; rw [show (chM a0 a1 a2 a3 (.slice (some ⟨fb, 0, none⟩) 2 cap) nilS 1 0 lim gv0 nilS pr tv).setIfInBounds 9 (.slice (some ⟨fb, 0, none⟩) 1 1) = (chM a0 a1 a2 a3 (.slice (some ⟨fb, 0, none⟩) 1 1) nilS 1 0 lim gv0 nilS pr tv) from by kernel_rfl] at hr1)
  replace HWC := hid (WorldW.keptC (WorldW.kept HWC.out M.kept) K1 c1' HO.out wtype119)
  replace HC3 := hid ((HC3.out.kept M.kept).keptC K1 c1' HO.out)
  replace HC4 := hid ((HC4.out.kept M.kept).keptC K1 c1' HO.out)
  replace HC5 := hid ((HC5.out.kept M.kept).keptC K1 c1' HO.out)
  replace HPP := hid ((HPP.out.kept M.kept).keptC K1 c1' HO.out (by decide))
  replace HR7 := hid ((HR7.out.kept M.kept).keptC K1 c1' HO.out)
  replace HG2 := hid ((HG2.out.kept M.kept).keptC K1 c1' HO.out)
  replace HD : Hid (∀ v ds, NatV w v ds → NatV w8 v ds) := fun v ds h => ((HD.out v ds h).kept M.kept).keptC K1 c1' HO.out
  replace HK : Hid (Kept [c, fb] w w8) := HK.out.trans ((M.kept.mono (by simp)).trans (K1.mono (by simp)))
  replace hr := K1.row (M.kept.row hr (by simp)) hfc
  replace c1 := hr1
  clear K1 hr1 M c1'
  have M := Mem.start w8 []
  refine S_done ?_
  go_wp2_with ((with_reducible apply W_loadCell); rfl; exact M.kept.row c1 (by simp); exact (show (chM a0 a1 a2 a3 (.slice (some ⟨fb, 0, none⟩) 1 1) nilS 1 0 lim gv0 nilS pr tv)[9]? = some (.slice (some ⟨fb, 0, none⟩) 1 1) by kernel_rfl); exact Salg.underlying115; rfl; simp only [Act.put, List.setIfInBounds_toArray, List.set_cons_zero, List.set_cons_succ])
  refine S_region (by kernel_rfl) ?_
  refine E_stage 0 12 [0, 1, 2, 3, 4, 5, 6, 7, 8, 9, 10, 11] (by kernel_rfl) M.drew ?_
  clear M
  simp only [List.filterMap_cons, List.filterMap_nil, List.getElem?_cons_zero, List.getElem?_cons_succ]
  ((with_reducible apply E_run); rfl; rfl; (intro w M; go_simp; (try go_ints); (try simp only [↓IntWalk.iteOmega]); (try with_reducible rfl)); simp only [Act.put, List.setIfInBounds_toArray, List.set_cons_zero, List.set_cons_succ])
  ((with_reducible apply E_run); rfl; rfl; (intro w M; go_simp; (try go_ints); (try simp only [↓IntWalk.iteOmega]); (try with_reducible rfl)); simp only [Act.put, List.setIfInBounds_toArray, List.set_cons_zero, List.set_cons_succ])
  ((with_reducible apply E_run); rfl; rfl; (intro w M; go_simp; (try go_ints); (try simp only [↓IntWalk.iteOmega]); (try with_reducible rfl)); simp only [Act.put, List.setIfInBounds_toArray, List.set_cons_zero, List.set_cons_succ])
  ((with_reducible apply E_run); rfl; rfl; (intro w M; exact run_loadCell (M.kept.row c1 (by simp)) rfl (show (chM a0 a1 a2 a3 (.slice (some ⟨fb, 0, none⟩) 1 1) nilS 1 0 lim gv0 nilS pr tv)[9]? = some (.slice (some ⟨fb, 0, none⟩) 1 1) by kernel_rfl) Salg.underlying115 rfl); simp only [Act.put, List.setIfInBounds_toArray, List.set_cons_zero, List.set_cons_succ])
  ((with_reducible apply E_run); rfl; rfl; (intro w M; go_simp; (try go_ints); (try simp only [↓IntWalk.iteOmega]); (try with_reducible rfl)); simp only [Act.put, List.setIfInBounds_toArray, List.set_cons_zero, List.set_cons_succ])
  ((with_reducible apply E_run); rfl; rfl; (intro w M; go_simp; (try go_ints); (try simp only [↓IntWalk.iteOmega]); (try with_reducible rfl)); simp only [Act.put, List.setIfInBounds_toArray, List.set_cons_zero, List.set_cons_succ])
  ((with_reducible apply E_run); rfl; rfl; (intro w M; go_simp; (try go_ints); (try simp only [↓IntWalk.iteOmega]); (try with_reducible rfl)); simp only [Act.put, List.setIfInBounds_toArray, List.set_cons_zero, List.set_cons_succ])
  ((with_reducible apply E_run); rfl; rfl; (intro w M; exact run_loadCell (M.kept.row c1 (by simp)) rfl (show (chM a0 a1 a2 a3 (.slice (some ⟨fb, 0, none⟩) 1 1) nilS 1 0 lim gv0 nilS pr tv)[9]? = some (.slice (some ⟨fb, 0, none⟩) 1 1) by kernel_rfl) Salg.underlying115 rfl); simp only [Act.put, List.setIfInBounds_toArray, List.set_cons_zero, List.set_cons_succ])
  ((with_reducible apply E_run); rfl; rfl; (intro w M; go_simp; (try go_ints); (try simp only [↓IntWalk.iteOmega]); (try with_reducible rfl)); simp only [Act.put, List.setIfInBounds_toArray, List.set_cons_zero, List.set_cons_succ])
  ((with_reducible apply E_run); rfl; rfl; (intro w M; go_simp; (try go_ints); (try simp only [↓IntWalk.iteOmega]); (try with_reducible rfl)); simp only [Act.put, List.setIfInBounds_toArray, List.set_cons_zero, List.set_cons_succ])
  ((with_reducible apply E_run); rfl; rfl; (intro w M; go_simp; (try go_ints); (try simp only [↓IntWalk.iteOmega]); (try with_reducible rfl)); simp only [Act.put, List.setIfInBounds_toArray, List.set_cons_zero, List.set_cons_succ])
  ((with_reducible apply E_run); rfl; rfl; (intro w M; go_simp; (try go_ints); (try simp only [↓IntWalk.iteOmega]); (try with_reducible rfl)); simp only [Act.put, List.setIfInBounds_toArray, List.set_cons_zero, List.set_cons_succ])
  refine E_nil ?_
  intro w9 K M
  clear K
  refine S_done ?_
  go_wp2_with ((with_reducible apply W_loadCell); rfl; exact M.kept.row hr (by simp); exact q4; exact Salg.underlying89; rfl; simp only [Act.put, List.setIfInBounds_toArray, List.set_cons_zero, List.set_cons_succ])
  refine (add_num gv1 gv2 G1 G2 _ (HPP.out.g.kept M.kept) (HG2.out.kept M.kept) (by omega) (by omega)).mono ?_
  rintro e w10 ⟨gs, rfl, xHGS, K⟩
  have HGS := hid xHGS
  replace M := M.call K
  clear K xHGS
  have hrow := M.kept.row hr (by simp)
  go_wp2_with (first
    | ((with_reducible apply W_stV (b := fb) (o := 4) (v := gs)); rfl; rfl; exact HGS.out.one; exact hrow; exact size89; exact z4; intro w11 K1 hr11)
    | ((with_reducible apply W_loadCell); rfl; exact hr11; exact ((Array.getElem?_setIfInBounds_ne (by decide)).trans q7); exact Salg.underlying89; rfl; simp only [Act.put, List.setIfInBounds_toArray, List.set_cons_zero, List.set_cons_succ]))
  replace HWC := hid (WorldW.keptC (WorldW.kept HWC.out M.kept) K1 hrow HNB.out wtype142)
  replace HC3 := hid ((HC3.out.kept M.kept).keptC K1 hrow HNB.out)
  replace HC4 := hid ((HC4.out.kept M.kept).keptC K1 hrow HNB.out)
  replace HC5 := hid ((HC5.out.kept M.kept).keptC K1 hrow HNB.out)
  replace HPP := hid ((HPP.out.kept M.kept).keptC K1 hrow HNB.out (by decide))
  replace HR7 := hid ((HR7.out.kept M.kept).keptC K1 hrow HNB.out)
  replace HD : Hid (∀ v ds, NatV w v ds → NatV w11 v ds) := fun v ds h => ((HD.out v ds h).kept M.kept).keptC K1 hrow HNB.out
  replace HK : Hid (Kept [c, fb] w w11) := HK.out.trans ((M.kept.mono (by simp)).trans (K1.mono (by simp)))
  replace HGS := hid (HGS.out.keptC K1 hrow HNB.out)
  replace c1 := K1.row (M.kept.row c1 (by simp)) hcf
  clear K1 M hrow hr HG2
  have M := Mem.start w11 []
  have q7' : (fs.setIfInBounds 4 gs)[0 + 7]? = some r7 := (Array.getElem?_setIfInBounds_ne (by decide)).trans q7
  refine (small_any r7 0 _ (HR7.out.kept M.kept) (by decide)).mono ?_
  rintro e w13 ⟨rfl, hw⟩
  replace hw := hw.symm
  subst hw
  go_wp2_with fail
  have HNB2 := hid (not_bytes_at (tc := 142) (cs := fs.setIfInBounds 4 gs) (i := 0 + 8) ((Array.getElem?_setIfInBounds_ne (by decide)).trans q8))
  have hxl1 := HPP.out.n.1
  have hrow := M.kept.row hr11 (by simp)
  refine (answer_any fb 0 m1 0 0 (fs.setIfInBounds 4 gs) pv1 _ nilS xs1 _ hrow ((Array.getElem?_setIfInBounds_ne (by decide)).trans q3) (HPP.out.p.kept M.kept) ((Array.getElem?_setIfInBounds_ne (by decide)).trans q8) (HPP.out.s.kept M.kept) (nil_num _) (by omega) (by omega) (by omega)).mono ?_
  rintro e w14 ⟨r14, v', pv', rfl, K1, hr14, x1, x2⟩
  have HSV := hid x1
  have HPV := hid x2
  replace HGS := hid ((HGS.out.kept M.kept).keptC K1 hrow HNB2.out)
  replace HWC := hid (WorldW.keptC (WorldW.kept HWC.out M.kept) K1 hrow HNB2.out wtype142)
  replace HC3 := hid ((HC3.out.kept M.kept).keptC K1 hrow HNB2.out)
  replace HC4 := hid ((HC4.out.kept M.kept).keptC K1 hrow HNB2.out)
  replace HC5 := hid ((HC5.out.kept M.kept).keptC K1 hrow HNB2.out)
  replace HPP := hid ((HPP.out.kept M.kept).keptC K1 hrow HNB2.out (by decide))
  replace HR7 := hid ((HR7.out.kept M.kept).keptC K1 hrow HNB2.out)
  replace HD : Hid (∀ v ds, NatV w v ds → NatV w14 v ds) := fun v ds h => ((HD.out v ds h).kept M.kept).keptC K1 hrow HNB2.out
  replace HK : Hid (Kept [c, fb] w w14) := HK.out.trans ((M.kept.mono (by simp)).trans (K1.mono (by simp)))
  replace c1 := K1.row (M.kept.row c1 (by simp)) hcf
  clear K1 M hrow hr11 x1 x2
  go_wp2_with fail
  go_end0
  refine ⟨_, fs, rfl, ⟨a0, a1, a2, a3, lim, gv0, pr, tv, c1, HWC.out, HC3.out, HC4.out, HC5.out, c6⟩, ⟨_, pv', gs, v', xs1.take (xs1.length - 0) ++ [nilS], hr14, by simp only [Array.size_setIfInBounds], fun k k3 k4 k8 k9 => by rw [Array.getElem?_setIfInBounds_ne (by omega), Array.getElem?_setIfInBounds_ne (by omega), Array.getElem?_setIfInBounds_ne (by omega)], Array.getElem?_setIfInBounds_self_of_lt (by simp; omega), HPV.out, by rw [Array.getElem?_setIfInBounds_ne (by omega), Array.getElem?_setIfInBounds_ne (by omega), Array.getElem?_setIfInBounds_self_of_lt z4], HGS.out, by rw [Array.getElem?_setIfInBounds_ne (by omega), Array.getElem?_setIfInBounds_self_of_lt (by simp; omega)], HSV.out, ?_, by rw [Array.getElem?_setIfInBounds_ne (by omega), Array.getElem?_setIfInBounds_ne (by omega), Array.getElem?_setIfInBounds_ne (by omega)]; exact q9⟩, fun k hk => HX2.out k (by omega) (by omega) (by omega) (by omega), hz.trans hsz.symm, HD.out, HK.out⟩
  rw [Nat.sub_zero, List.take_length]
  exact HPP.out.n.push (nil_num _)

set_option maxHeartbeats 4000000 in
set_option maxRecDepth 100000 in
theorem leave_fail (c fb cap m1 G1 m2 G2 : Nat) (cur : Array Value) (ns1 ns2 : List Nat) (la la' : List (List Nat)) (mo mo' : Option Nat) (so so' : Option (Nat × Nat)) (R R' : Nat) (ds1 ds2 : List Nat) (pv1 gv1 sv1 r7 sg vv cw a0 a1 a2 a3 mv1 mv2 : Value) (xs1 : List Value) (w : World) (hC : ChainV w c (.slice (some ⟨fb, 0, none⟩) 2 cap) la mo so R ds1 ds2) (hF : FrameQ w fb 60 cur m2 G2 ns2 mv2) (hcur : ∀ k, k < 60 → cur[60 + k]? = (frD sg vv cw nilS (wrow4 a0 a1 a2 a3))[k]?) (hP : PartsV w pv1 gv1 sv1 xs1 m1 G1 ns1) (p3 : cur[3]? = some pv1) (p4 : cur[4]? = some gv1) (p7 : cur[7]? = some r7) (p8 : cur[8]? = some sv1) (p9 : cur[9]? = some mv1) (hr7 : NumV w r7 0) (hW : WorldS w a0 a1 a2 a3 la' mo' so' R' ds1 ds2) (hsz : cur.size = cap * 60) (hcap : 2 ≤ cap) (hcap2 : cap ≤ maxLen) (hl : ns1.length ≤ 30) (hm : m1 ≤ 900) (hG1 : G1 < 256 ^ 100) (hG2 : G2 < 256 ^ 100) (o1 : sg.oneCell' = true) (o2 : vv.oneCell' = true) (o3 : cw.oneCell' = true) (o4 : mv2.oneCell' = true) :
    Calls Salg.prog 112 #[.pointer (some ⟨c, 0, none⟩), .int .u8 5, .slice none 0 0] w fun e w' => ∃ (r : Value) (fs1 : Array Value), e = .returned r ∧ ChainV w' c (.slice (some ⟨fb, 0, none⟩) 1 1) la' mo' so' R' ds1 ds2 ∧ FrameQ w' fb 0 fs1 (m1 + 1) (G1 + 0) (ns1 ++ [0]) mv1 ∧ (∀ k, k < 60 → fs1[k]? = cur[k]?) ∧ fs1.size = cur.size ∧ (∀ v ds, NatV w v ds → NatV w' v ds) ∧ Kept [c, fb] w w' := by
  have M := Mem.start w []
  obtain ⟨fs, pv2, gv2, sv2, xs2, hr, h0, h2, h3, h4, h5, h6, h7, h8, h9, ha⟩ := hF
  obtain ⟨vz, wz, mv, rv, lim, gv0, pr, tv, c1, c2, c3, c4, c5, c6⟩ := hC
  have hfc : fb ∉ [c] := row_ne c1 hr (by rintro h; cases h)
  have hcf : c ∉ [fb] := row_ne hr c1 (by rintro h; cases h)
  have hz : fs.size = cap * 60 := h0.trans hsz
  have HX : Hid (fs.extract 60 (60 + 60) = (frS (frD sg vv cw nilS (wrow4 a0 a1 a2 a3)) pv2 gv2 sv2 mv2).toArray) := frame_ext (by kernel_rfl) (by omega) (frS_get (f := fun k => fs[60 + k]?) (by kernel_rfl) (fun k k1 k3 k4 k8 k9 => (h2 (60 + k) (by omega) (by omega) (by omega) (by omega)).trans (hcur k k1)) h3 h5 h7 ha)
  obtain ⟨y0, y1, y2, y3⟩ := WorldW.one hW
  have H1 := hid (frS_one (frD_one4 o1 o2 o3 (iu := nilS) rfl y0 y1 y2 y3) h4.one h6.one h8.one o4)
  have q3 : fs[0 + 3]? = some pv1 := (h2 3 (by decide) (by decide) (by decide) (by decide)).trans p3
  have q4 : fs[0 + 4]? = some gv1 := (h2 4 (by decide) (by decide) (by decide) (by decide)).trans p4
  have q7 : fs[0 + 7]? = some r7 := (h2 7 (by decide) (by decide) (by decide) (by decide)).trans p7
  have q8 : fs[0 + 8]? = some sv1 := (h2 8 (by decide) (by decide) (by decide) (by decide)).trans p8
  have q9 : fs[0 + 9]? = some mv1 := (h2 9 (by decide) (by decide) (by decide) (by decide)).trans p9
  obtain ⟨pp1, nn1, kk1, rfl⟩ := rowV_slice hP.s
  have HNB := hid (not_bytes_at (tc := 142) q8)
  have HO := hid (chM_nb vz wz mv rv (.slice (some ⟨fb, 0, none⟩) 2 cap) nilS 1 0 lim gv0 nilS pr tv)
  replace c1 : w.heap[c]? = some (.cells (chM vz wz mv rv (.slice (some ⟨fb, 0, none⟩) 2 cap) nilS 1 0 lim gv0 nilS pr tv) 119 (0, 0)) := c1
  have HX2 := hid h2
  have HWC := hid hW
  have HONE := hid (wrow4_oneL y0 y1 y2 y3)
  have HC3 := hid c3
  have HC4 := hid c4
  have HC5 := hid c5
  have HPP := hid hP
  have HR7 := hid hr7
  have HG2 := hid h6
  have HD : Hid (∀ v ds, NatV w v ds → NatV w v ds) := fun v ds h => h
  have HK : Hid (Kept [c, fb] w w) := Kept.refl _ _
  have hfl := lt_of_row hr
  have hcl := lt_of_row c1
  have z4 : 4 < fs.size := by omega
  clear h2 h3 h4 h5 h6 h7 h8 h9 ha c2 c3 c4 c5 hP hr7 hW y0 y1 y2 y3 hcur h0
  go_enter Salg.func112, Salg.ntmps112
  go_wp2_with fail
  refine S_region (by kernel_rfl) ?_
  refine E_float 0 13 [0, 1, 2, 3, 4, 5, 6, 7, 8, 9, 10, 11] 12 6 _ (by kernel_rfl) ⟨⟨_, _, _, _, _, rfl, zero142, rfl⟩⟩ (by simp) M.drew ?_
  clear M
  simp only [List.filterMap_cons, List.filterMap_nil, List.getElem?_cons_zero, List.getElem?_cons_succ]
  ((with_reducible apply E_run); rfl; rfl; (intro w M; go_simp; (try go_ints); (try simp only [↓IntWalk.iteOmega]); (try with_reducible rfl)); simp only [Act.put, List.setIfInBounds_toArray, List.set_cons_zero, List.set_cons_succ])
  ((with_reducible apply E_run); rfl; rfl; (intro w M; go_simp; (try go_ints); (try simp only [↓IntWalk.iteOmega]); (try with_reducible rfl)); simp only [Act.put, List.setIfInBounds_toArray, List.set_cons_zero, List.set_cons_succ])
  ((with_reducible apply E_run); rfl; rfl; (intro w M; go_simp; (try go_ints); (try simp only [↓IntWalk.iteOmega]); (try with_reducible rfl)); simp only [Act.put, List.setIfInBounds_toArray, List.set_cons_zero, List.set_cons_succ])
  ((with_reducible apply E_run); rfl; rfl; (intro w M; exact run_loadCell (M.kept.row c1 (by simp)) rfl (show (chM vz wz mv rv (.slice (some ⟨fb, 0, none⟩) 2 cap) nilS 1 0 lim gv0 nilS pr tv)[9]? = some (.slice (some ⟨fb, 0, none⟩) 2 cap) by kernel_rfl) Salg.underlying115 rfl); simp only [Act.put, List.setIfInBounds_toArray, List.set_cons_zero, List.set_cons_succ])
  ((with_reducible apply E_run); rfl; rfl; (intro w M; go_simp; (try go_ints); (try simp only [↓IntWalk.iteOmega]); (try with_reducible rfl)); simp only [Act.put, List.setIfInBounds_toArray, List.set_cons_zero, List.set_cons_succ])
  ((with_reducible apply E_run); rfl; rfl; (intro w M; go_simp; (try go_ints); (try simp only [↓IntWalk.iteOmega]); (try with_reducible rfl)); simp only [Act.put, List.setIfInBounds_toArray, List.set_cons_zero, List.set_cons_succ])
  ((with_reducible apply E_run); rfl; rfl; (intro w M; go_simp; (try go_ints); (try simp only [↓IntWalk.iteOmega]); (try with_reducible rfl)); simp only [Act.put, List.setIfInBounds_toArray, List.set_cons_zero, List.set_cons_succ])
  ((with_reducible apply E_run); rfl; rfl; (intro w M; exact run_loadCell (M.kept.row c1 (by simp)) rfl (show (chM vz wz mv rv (.slice (some ⟨fb, 0, none⟩) 2 cap) nilS 1 0 lim gv0 nilS pr tv)[9]? = some (.slice (some ⟨fb, 0, none⟩) 2 cap) by kernel_rfl) Salg.underlying115 rfl); simp only [Act.put, List.setIfInBounds_toArray, List.set_cons_zero, List.set_cons_succ])
  ((with_reducible apply E_run); rfl; rfl; (intro w M; go_simp; (try go_ints); (try simp only [↓IntWalk.iteOmega]); (try with_reducible rfl)); simp only [Act.put, List.setIfInBounds_toArray, List.set_cons_zero, List.set_cons_succ])
  ((with_reducible apply E_run); rfl; rfl; (intro w M; go_simp; (try go_ints); (try simp only [↓IntWalk.iteOmega]); (try with_reducible rfl)); simp only [Act.put, List.setIfInBounds_toArray, List.set_cons_zero, List.set_cons_succ])
  ((with_reducible apply E_run); rfl; rfl; (intro w M; go_simp; (try go_ints); (try simp only [↓IntWalk.iteOmega]); (try with_reducible rfl)); simp only [Act.put, List.setIfInBounds_toArray, List.set_cons_zero, List.set_cons_succ])
  ((with_reducible apply E_run (v := .agg (frS (frD sg vv cw nilS (wrow4 a0 a1 a2 a3)) pv2 gv2 sv2 mv2).toArray)); rfl; rfl; (intro w M; exact run_loadX (n := 60) (M.kept.row hr (by simp)) rfl Salg.underlying142 rfl size142 (by omega) HX.out); simp only [Act.put, List.setIfInBounds_toArray, List.set_cons_zero, List.set_cons_succ])
  refine E_nil ?_
  intro w1 K1 M
  clear K1
  intro t6 w2 K1 ht6 M
  clear K1
  simp only [Act.put, List.setIfInBounds_toArray, List.set_cons_zero, List.set_cons_succ]
  refine S_seg 13 14 (by kernel_rfl) (by decide) ?_
  simp only [List.take_succ_cons, List.take_zero, List.drop_zero, List.drop_succ_cons, Nat.sub_zero, Nat.reduceSub]
  go_wp2_with ((with_reducible apply W_storeK (b := t6) (vs := (frS (frD sg vv cw nilS (wrow4 a0 a1 a2 a3)) pv2 gv2 sv2 mv2).toArray)); rfl; rfl; exact M.r0; exact size142; rfl; exact H1.out; intro w3 K1 hr3; replace M := Mem.callPut (L1 := []) M (Or.inr ht6) K1 hr3; clear K1 hr3; simp only [List.nil_append] at M)
  refine S_done ?_
  go_wp2_with (first
    | ((with_reducible apply W_loadCell); rfl; exact M.r0; exact (show (frS (frD sg vv cw nilS (wrow4 a0 a1 a2 a3)) pv2 gv2 sv2 mv2).toArray[4]? = some gv2 by kernel_rfl); exact Salg.underlying89; rfl; simp only [Act.put, List.setIfInBounds_toArray, List.set_cons_zero, List.set_cons_succ])
    | ((with_reducible apply W_loadCell); rfl; exact M.r0; exact (show (frS (frD sg vv cw nilS (wrow4 a0 a1 a2 a3)) pv2 gv2 sv2 mv2).toArray[0]? = some (.int .u8 3) by kernel_rfl); exact Salg.underlying5; rfl; simp only [Act.put, List.setIfInBounds_toArray, List.set_cons_zero, List.set_cons_succ]))
  refine (creates_three _).mono ?_
  rintro e w4 ⟨rfl, hw⟩
  replace hw := hw.symm
  subst hw
  have H6 := hid M.r0
  have h6c : t6 ∉ [c] := by simp; omega
  have h6f : t6 ∉ [fb] := by simp; omega
  replace c1 := M.kept.row c1 (by simp)
  replace hr := M.kept.row hr (by simp)
  replace HWC := hid (WorldW.kept HWC.out M.kept)
  replace HC3 := hid (HC3.out.kept M.kept)
  replace HC4 := hid (HC4.out.kept M.kept)
  replace HC5 := hid (HC5.out.kept M.kept)
  replace HPP := hid (HPP.out.kept M.kept)
  replace HR7 := hid (HR7.out.kept M.kept)
  replace HG2 := hid (HG2.out.kept M.kept)
  replace HD : Hid (∀ v ds, NatV w v ds → NatV w3 v ds) := fun v ds h => h.kept M.kept
  replace HK : Hid (Kept [c, fb] w w3) := M.kept.mono (by simp)
  clear M
  go_wp2_with (first
    | ((with_reducible apply W_loadX (n := 8) (vs := (wrow4 a0 a1 a2 a3).toArray)); rfl; exact H6.out; exact Salg.underlying113; rfl; exact size113; exact Nat.le_of_ble_eq_true (by kernel_rfl); exact (show (frS (frD sg vv cw nilS (wrow4 a0 a1 a2 a3)) pv2 gv2 sv2 mv2).toArray.extract 52 (52 + 8) = _ by kernel_rfl); simp only [Act.put, List.setIfInBounds_toArray, List.set_cons_zero, List.set_cons_succ])
    | ((with_reducible apply W_stP (b := c) (o := 0) (n := 8) (v := .agg (wrow4 a0 a1 a2 a3).toArray) (rs := (chM a0 a1 a2 a3 (.slice (some ⟨fb, 0, none⟩) 2 cap) nilS 1 0 lim gv0 nilS pr tv))); rfl; rfl; exact c1; exact size113; rfl; exact HONE.out; exact Nat.le_of_ble_eq_true (by kernel_rfl); kernel_rfl; intro w5 K0 hr0)
    | ((with_reducible apply W_stV (b := c) (o := 10) (v := nilS)); rfl; rfl; exact rfl; exact hr0; exact size40; exact Nat.le_of_ble_eq_true (by kernel_rfl); intro w6 K1 hr1; rw [show (chM a0 a1 a2 a3 (.slice (some ⟨fb, 0, none⟩) 2 cap) nilS 1 0 lim gv0 nilS pr tv).setIfInBounds 10 (nilS) = (chM a0 a1 a2 a3 (.slice (some ⟨fb, 0, none⟩) 2 cap) nilS 1 0 lim gv0 nilS pr tv) from by kernel_rfl] at hr1))
  replace HWC := hid (WorldW.keptC HWC.out K0 c1 HO.out wtype119)
  replace HC3 := hid (HC3.out.keptC K0 c1 HO.out)
  replace HC4 := hid (HC4.out.keptC K0 c1 HO.out)
  replace HC5 := hid (HC5.out.keptC K0 c1 HO.out)
  replace HPP := hid (HPP.out.keptC K0 c1 HO.out (by decide))
  replace HR7 := hid (HR7.out.keptC K0 c1 HO.out)
  replace HG2 := hid (HG2.out.keptC K0 c1 HO.out)
  replace HD : Hid (∀ v ds, NatV w v ds → NatV w5 v ds) := fun v ds h => (HD.out v ds h).keptC K0 c1 HO.out
  replace HK : Hid (Kept [c, fb] w w5) := HK.out.trans ((K0.mono (by simp)))
  replace hr := K0.row hr hfc
  replace H6 := hid (K0.row H6.out h6c)
  replace HO := hid (chM_nb a0 a1 a2 a3 (.slice (some ⟨fb, 0, none⟩) 2 cap) nilS 1 0 lim gv0 nilS pr tv)
  replace c1 := hr0
  clear K0 hr0
  replace HWC := hid (WorldW.keptC HWC.out K1 c1 HO.out wtype119)
  replace HC3 := hid (HC3.out.keptC K1 c1 HO.out)
  replace HC4 := hid (HC4.out.keptC K1 c1 HO.out)
  replace HC5 := hid (HC5.out.keptC K1 c1 HO.out)
  replace HPP := hid (HPP.out.keptC K1 c1 HO.out (by decide))
  replace HR7 := hid (HR7.out.keptC K1 c1 HO.out)
  replace HG2 := hid (HG2.out.keptC K1 c1 HO.out)
  replace HD : Hid (∀ v ds, NatV w v ds → NatV w6 v ds) := fun v ds h => (HD.out v ds h).keptC K1 c1 HO.out
  replace HK : Hid (Kept [c, fb] w w6) := HK.out.trans ((K1.mono (by simp)))
  replace hr := K1.row hr hfc
  replace H6 := hid (K1.row H6.out h6c)
  replace c1 := hr1
  clear K1 hr1
  have M := Mem.start w6 []
  refine S_region (by kernel_rfl) ?_
  refine E_stage 0 18 [0, 1, 2, 3, 4, 5, 6, 7, 8, 9, 10, 11, 12, 13, 14, 15, 16, 17] (by kernel_rfl) M.drew ?_
  clear M
  simp only [List.filterMap_cons, List.filterMap_nil, List.getElem?_cons_zero, List.getElem?_cons_succ]
  ((with_reducible apply E_run); rfl; rfl; (intro w M; go_simp; (try go_ints); (try simp only [↓IntWalk.iteOmega]); (try with_reducible rfl)); simp only [Act.put, List.setIfInBounds_toArray, List.set_cons_zero, List.set_cons_succ])
  ((with_reducible apply E_run); rfl; rfl; (intro w M; go_simp; (try go_ints); (try simp only [↓IntWalk.iteOmega]); (try with_reducible rfl)); simp only [Act.put, List.setIfInBounds_toArray, List.set_cons_zero, List.set_cons_succ])
  ((with_reducible apply E_run); rfl; rfl; (intro w M; go_simp; (try go_ints); (try simp only [↓IntWalk.iteOmega]); (try with_reducible rfl)); simp only [Act.put, List.setIfInBounds_toArray, List.set_cons_zero, List.set_cons_succ])
  ((with_reducible apply E_run); rfl; rfl; (intro w M; go_simp; (try go_ints); (try simp only [↓IntWalk.iteOmega]); (try with_reducible rfl)); simp only [Act.put, List.setIfInBounds_toArray, List.set_cons_zero, List.set_cons_succ])
  ((with_reducible apply E_run); rfl; rfl; (intro w M; exact run_loadCell (M.kept.row c1 (by simp)) rfl (show (chM a0 a1 a2 a3 (.slice (some ⟨fb, 0, none⟩) 2 cap) nilS 1 0 lim gv0 nilS pr tv)[9]? = some (.slice (some ⟨fb, 0, none⟩) 2 cap) by kernel_rfl) Salg.underlying115 rfl); simp only [Act.put, List.setIfInBounds_toArray, List.set_cons_zero, List.set_cons_succ])
  ((with_reducible apply E_run); rfl; rfl; (intro w M; go_simp; (try go_ints); (try simp only [↓IntWalk.iteOmega]); (try with_reducible rfl)); simp only [Act.put, List.setIfInBounds_toArray, List.set_cons_zero, List.set_cons_succ])
  ((with_reducible apply E_run); rfl; rfl; (intro w M; go_simp; (try go_ints); (try simp only [↓IntWalk.iteOmega]); (try with_reducible rfl)); simp only [Act.put, List.setIfInBounds_toArray, List.set_cons_zero, List.set_cons_succ])
  ((with_reducible apply E_run); rfl; rfl; (intro w M; go_simp; (try go_ints); (try simp only [↓IntWalk.iteOmega]); (try with_reducible rfl)); simp only [Act.put, List.setIfInBounds_toArray, List.set_cons_zero, List.set_cons_succ])
  ((with_reducible apply E_run); rfl; rfl; (intro w M; exact run_loadCell (M.kept.row c1 (by simp)) rfl (show (chM a0 a1 a2 a3 (.slice (some ⟨fb, 0, none⟩) 2 cap) nilS 1 0 lim gv0 nilS pr tv)[9]? = some (.slice (some ⟨fb, 0, none⟩) 2 cap) by kernel_rfl) Salg.underlying115 rfl); simp only [Act.put, List.setIfInBounds_toArray, List.set_cons_zero, List.set_cons_succ])
  ((with_reducible apply E_run); rfl; rfl; (intro w M; go_simp; (try go_ints); (try simp only [↓IntWalk.iteOmega]); (try with_reducible rfl)); simp only [Act.put, List.setIfInBounds_toArray, List.set_cons_zero, List.set_cons_succ])
  ((with_reducible apply E_run); rfl; rfl; (intro w M; go_simp; (try go_ints); (try simp only [↓IntWalk.iteOmega]); (try with_reducible rfl)); simp only [Act.put, List.setIfInBounds_toArray, List.set_cons_zero, List.set_cons_succ])
  ((with_reducible apply E_run); rfl; rfl; (intro w M; go_simp; (try go_ints); (try simp only [↓IntWalk.iteOmega]); (try with_reducible rfl)); simp only [Act.put, List.setIfInBounds_toArray, List.set_cons_zero, List.set_cons_succ])
  ((with_reducible apply E_run); rfl; rfl; (intro w M; go_simp; (try go_ints); (try simp only [↓IntWalk.iteOmega]); (try with_reducible rfl)); simp only [Act.put, List.setIfInBounds_toArray, List.set_cons_zero, List.set_cons_succ])
  ((with_reducible apply E_run); rfl; rfl; (intro w M; go_simp; (try go_ints); (try simp only [↓IntWalk.iteOmega]); (try with_reducible rfl)); simp only [Act.put, List.setIfInBounds_toArray, List.set_cons_zero, List.set_cons_succ])
  ((with_reducible apply E_run); rfl; rfl; (intro w M; exact run_loadCell (M.kept.row c1 (by simp)) rfl (show (chM a0 a1 a2 a3 (.slice (some ⟨fb, 0, none⟩) 2 cap) nilS 1 0 lim gv0 nilS pr tv)[9]? = some (.slice (some ⟨fb, 0, none⟩) 2 cap) by kernel_rfl) Salg.underlying115 rfl); simp only [Act.put, List.setIfInBounds_toArray, List.set_cons_zero, List.set_cons_succ])
  ((with_reducible apply E_run); rfl; rfl; (intro w M; go_simp; (try go_ints); (try simp only [↓IntWalk.iteOmega]); (try with_reducible rfl)); simp only [Act.put, List.setIfInBounds_toArray, List.set_cons_zero, List.set_cons_succ])
  ((with_reducible apply E_run); rfl; rfl; (intro w M; go_simp; (try go_ints); (try simp only [↓IntWalk.iteOmega]); (try with_reducible rfl)); simp only [Act.put, List.setIfInBounds_toArray, List.set_cons_zero, List.set_cons_succ])
  ((with_reducible apply E_run); rfl; rfl; (intro w M; exact run_slice3 (n := 1) rfl rfl rfl (by omega) (by omega) Salg.underlying115 ⟨60, size142⟩ (by omega)); simp only [Act.put, List.setIfInBounds_toArray, List.set_cons_zero, List.set_cons_succ])
  refine E_nil ?_
  intro w7 K M
  clear K
  have c1' := M.kept.row c1 (by simp)
  refine S_seg 18 21 (by kernel_rfl) (by decide) ?_
  simp only [List.take_succ_cons, List.take_zero, List.drop_zero, List.drop_succ_cons, Nat.sub_zero, Nat.reduceSub]
  go_wp2_with ((with_reducible apply W_stV (b := c) (o := 9) (v := .slice (some ⟨fb, 0, none⟩) 1 1)); rfl; rfl; exact rfl; exact c1'; exact size115; exact Nat.le_of_ble_eq_true (by kernel_rfl); intro w8 K1 hr1; rw [show (chM a0 a1 a2 a3 (.slice (some ⟨fb, 0, none⟩) 2 cap) nilS 1 0 lim gv0 nilS pr tv).setIfInBounds 9 (.slice (some ⟨fb, 0, none⟩) 1 1) = (chM a0 a1 a2 a3 (.slice (some ⟨fb, 0, none⟩) 1 1) nilS 1 0 lim gv0 nilS pr tv) from by kernel_rfl] at hr1)
  replace HWC := hid (WorldW.keptC (WorldW.kept HWC.out M.kept) K1 c1' HO.out wtype119)
  replace HC3 := hid ((HC3.out.kept M.kept).keptC K1 c1' HO.out)
  replace HC4 := hid ((HC4.out.kept M.kept).keptC K1 c1' HO.out)
  replace HC5 := hid ((HC5.out.kept M.kept).keptC K1 c1' HO.out)
  replace HPP := hid ((HPP.out.kept M.kept).keptC K1 c1' HO.out (by decide))
  replace HR7 := hid ((HR7.out.kept M.kept).keptC K1 c1' HO.out)
  replace HG2 := hid ((HG2.out.kept M.kept).keptC K1 c1' HO.out)
  replace HD : Hid (∀ v ds, NatV w v ds → NatV w8 v ds) := fun v ds h => ((HD.out v ds h).kept M.kept).keptC K1 c1' HO.out
  replace HK : Hid (Kept [c, fb] w w8) := HK.out.trans ((M.kept.mono (by simp)).trans (K1.mono (by simp)))
  replace hr := K1.row (M.kept.row hr (by simp)) hfc
  replace c1 := hr1
  clear K1 hr1 M c1'
  have M := Mem.start w8 []
  refine S_done ?_
  go_wp2_with ((with_reducible apply W_loadCell); rfl; exact M.kept.row c1 (by simp); exact (show (chM a0 a1 a2 a3 (.slice (some ⟨fb, 0, none⟩) 1 1) nilS 1 0 lim gv0 nilS pr tv)[9]? = some (.slice (some ⟨fb, 0, none⟩) 1 1) by kernel_rfl); exact Salg.underlying115; rfl; simp only [Act.put, List.setIfInBounds_toArray, List.set_cons_zero, List.set_cons_succ])
  refine S_region (by kernel_rfl) ?_
  refine E_stage 0 12 [0, 1, 2, 3, 4, 5, 6, 7, 8, 9, 10, 11] (by kernel_rfl) M.drew ?_
  clear M
  simp only [List.filterMap_cons, List.filterMap_nil, List.getElem?_cons_zero, List.getElem?_cons_succ]
  ((with_reducible apply E_run); rfl; rfl; (intro w M; go_simp; (try go_ints); (try simp only [↓IntWalk.iteOmega]); (try with_reducible rfl)); simp only [Act.put, List.setIfInBounds_toArray, List.set_cons_zero, List.set_cons_succ])
  ((with_reducible apply E_run); rfl; rfl; (intro w M; go_simp; (try go_ints); (try simp only [↓IntWalk.iteOmega]); (try with_reducible rfl)); simp only [Act.put, List.setIfInBounds_toArray, List.set_cons_zero, List.set_cons_succ])
  ((with_reducible apply E_run); rfl; rfl; (intro w M; go_simp; (try go_ints); (try simp only [↓IntWalk.iteOmega]); (try with_reducible rfl)); simp only [Act.put, List.setIfInBounds_toArray, List.set_cons_zero, List.set_cons_succ])
  ((with_reducible apply E_run); rfl; rfl; (intro w M; exact run_loadCell (M.kept.row c1 (by simp)) rfl (show (chM a0 a1 a2 a3 (.slice (some ⟨fb, 0, none⟩) 1 1) nilS 1 0 lim gv0 nilS pr tv)[9]? = some (.slice (some ⟨fb, 0, none⟩) 1 1) by kernel_rfl) Salg.underlying115 rfl); simp only [Act.put, List.setIfInBounds_toArray, List.set_cons_zero, List.set_cons_succ])
  ((with_reducible apply E_run); rfl; rfl; (intro w M; go_simp; (try go_ints); (try simp only [↓IntWalk.iteOmega]); (try with_reducible rfl)); simp only [Act.put, List.setIfInBounds_toArray, List.set_cons_zero, List.set_cons_succ])
  ((with_reducible apply E_run); rfl; rfl; (intro w M; go_simp; (try go_ints); (try simp only [↓IntWalk.iteOmega]); (try with_reducible rfl)); simp only [Act.put, List.setIfInBounds_toArray, List.set_cons_zero, List.set_cons_succ])
  ((with_reducible apply E_run); rfl; rfl; (intro w M; go_simp; (try go_ints); (try simp only [↓IntWalk.iteOmega]); (try with_reducible rfl)); simp only [Act.put, List.setIfInBounds_toArray, List.set_cons_zero, List.set_cons_succ])
  ((with_reducible apply E_run); rfl; rfl; (intro w M; exact run_loadCell (M.kept.row c1 (by simp)) rfl (show (chM a0 a1 a2 a3 (.slice (some ⟨fb, 0, none⟩) 1 1) nilS 1 0 lim gv0 nilS pr tv)[9]? = some (.slice (some ⟨fb, 0, none⟩) 1 1) by kernel_rfl) Salg.underlying115 rfl); simp only [Act.put, List.setIfInBounds_toArray, List.set_cons_zero, List.set_cons_succ])
  ((with_reducible apply E_run); rfl; rfl; (intro w M; go_simp; (try go_ints); (try simp only [↓IntWalk.iteOmega]); (try with_reducible rfl)); simp only [Act.put, List.setIfInBounds_toArray, List.set_cons_zero, List.set_cons_succ])
  ((with_reducible apply E_run); rfl; rfl; (intro w M; go_simp; (try go_ints); (try simp only [↓IntWalk.iteOmega]); (try with_reducible rfl)); simp only [Act.put, List.setIfInBounds_toArray, List.set_cons_zero, List.set_cons_succ])
  ((with_reducible apply E_run); rfl; rfl; (intro w M; go_simp; (try go_ints); (try simp only [↓IntWalk.iteOmega]); (try with_reducible rfl)); simp only [Act.put, List.setIfInBounds_toArray, List.set_cons_zero, List.set_cons_succ])
  ((with_reducible apply E_run); rfl; rfl; (intro w M; go_simp; (try go_ints); (try simp only [↓IntWalk.iteOmega]); (try with_reducible rfl)); simp only [Act.put, List.setIfInBounds_toArray, List.set_cons_zero, List.set_cons_succ])
  refine E_nil ?_
  intro w9 K M
  clear K
  refine S_done ?_
  go_wp2_with ((with_reducible apply W_loadCell); rfl; exact M.kept.row hr (by simp); exact q4; exact Salg.underlying89; rfl; simp only [Act.put, List.setIfInBounds_toArray, List.set_cons_zero, List.set_cons_succ])
  refine (add_num gv1 nilS G1 0 _ (HPP.out.g.kept M.kept) (nil_num _) (by omega) (by omega)).mono ?_
  rintro e w10 ⟨gs, rfl, xHGS, K⟩
  have HGS := hid xHGS
  replace M := M.call K
  clear K xHGS
  have hrow := M.kept.row hr (by simp)
  go_wp2_with (first
    | ((with_reducible apply W_stV (b := fb) (o := 4) (v := gs)); rfl; rfl; exact HGS.out.one; exact hrow; exact size89; exact z4; intro w11 K1 hr11)
    | ((with_reducible apply W_loadCell); rfl; exact hr11; exact ((Array.getElem?_setIfInBounds_ne (by decide)).trans q7); exact Salg.underlying89; rfl; simp only [Act.put, List.setIfInBounds_toArray, List.set_cons_zero, List.set_cons_succ]))
  replace HWC := hid (WorldW.keptC (WorldW.kept HWC.out M.kept) K1 hrow HNB.out wtype142)
  replace HC3 := hid ((HC3.out.kept M.kept).keptC K1 hrow HNB.out)
  replace HC4 := hid ((HC4.out.kept M.kept).keptC K1 hrow HNB.out)
  replace HC5 := hid ((HC5.out.kept M.kept).keptC K1 hrow HNB.out)
  replace HPP := hid ((HPP.out.kept M.kept).keptC K1 hrow HNB.out (by decide))
  replace HR7 := hid ((HR7.out.kept M.kept).keptC K1 hrow HNB.out)
  replace HD : Hid (∀ v ds, NatV w v ds → NatV w11 v ds) := fun v ds h => ((HD.out v ds h).kept M.kept).keptC K1 hrow HNB.out
  replace HK : Hid (Kept [c, fb] w w11) := HK.out.trans ((M.kept.mono (by simp)).trans (K1.mono (by simp)))
  replace HGS := hid (HGS.out.keptC K1 hrow HNB.out)
  replace c1 := K1.row (M.kept.row c1 (by simp)) hcf
  clear K1 M hrow hr HG2
  have M := Mem.start w11 []
  have q7' : (fs.setIfInBounds 4 gs)[0 + 7]? = some r7 := (Array.getElem?_setIfInBounds_ne (by decide)).trans q7
  refine (small_any r7 0 _ (HR7.out.kept M.kept) (by decide)).mono ?_
  rintro e w13 ⟨rfl, hw⟩
  replace hw := hw.symm
  subst hw
  go_wp2_with fail
  have HNB2 := hid (not_bytes_at (tc := 142) (cs := fs.setIfInBounds 4 gs) (i := 0 + 8) ((Array.getElem?_setIfInBounds_ne (by decide)).trans q8))
  have hxl1 := HPP.out.n.1
  have hrow := M.kept.row hr11 (by simp)
  refine (answer_any fb 0 m1 0 0 (fs.setIfInBounds 4 gs) pv1 _ nilS xs1 _ hrow ((Array.getElem?_setIfInBounds_ne (by decide)).trans q3) (HPP.out.p.kept M.kept) ((Array.getElem?_setIfInBounds_ne (by decide)).trans q8) (HPP.out.s.kept M.kept) (nil_num _) (by omega) (by omega) (by omega)).mono ?_
  rintro e w14 ⟨r14, v', pv', rfl, K1, hr14, x1, x2⟩
  have HSV := hid x1
  have HPV := hid x2
  replace HGS := hid ((HGS.out.kept M.kept).keptC K1 hrow HNB2.out)
  replace HWC := hid (WorldW.keptC (WorldW.kept HWC.out M.kept) K1 hrow HNB2.out wtype142)
  replace HC3 := hid ((HC3.out.kept M.kept).keptC K1 hrow HNB2.out)
  replace HC4 := hid ((HC4.out.kept M.kept).keptC K1 hrow HNB2.out)
  replace HC5 := hid ((HC5.out.kept M.kept).keptC K1 hrow HNB2.out)
  replace HPP := hid ((HPP.out.kept M.kept).keptC K1 hrow HNB2.out (by decide))
  replace HR7 := hid ((HR7.out.kept M.kept).keptC K1 hrow HNB2.out)
  replace HD : Hid (∀ v ds, NatV w v ds → NatV w14 v ds) := fun v ds h => ((HD.out v ds h).kept M.kept).keptC K1 hrow HNB2.out
  replace HK : Hid (Kept [c, fb] w w14) := HK.out.trans ((M.kept.mono (by simp)).trans (K1.mono (by simp)))
  replace c1 := K1.row (M.kept.row c1 (by simp)) hcf
  clear K1 M hrow hr11 x1 x2
  go_wp2_with fail
  go_end0
  refine ⟨_, fs, rfl, ⟨a0, a1, a2, a3, lim, gv0, pr, tv, c1, HWC.out, HC3.out, HC4.out, HC5.out, c6⟩, ⟨_, pv', gs, v', xs1.take (xs1.length - 0) ++ [nilS], hr14, by simp only [Array.size_setIfInBounds], fun k k3 k4 k8 k9 => by rw [Array.getElem?_setIfInBounds_ne (by omega), Array.getElem?_setIfInBounds_ne (by omega), Array.getElem?_setIfInBounds_ne (by omega)], Array.getElem?_setIfInBounds_self_of_lt (by simp; omega), HPV.out, by rw [Array.getElem?_setIfInBounds_ne (by omega), Array.getElem?_setIfInBounds_ne (by omega), Array.getElem?_setIfInBounds_self_of_lt z4], HGS.out, by rw [Array.getElem?_setIfInBounds_ne (by omega), Array.getElem?_setIfInBounds_self_of_lt (by simp; omega)], HSV.out, ?_, by rw [Array.getElem?_setIfInBounds_ne (by omega), Array.getElem?_setIfInBounds_ne (by omega), Array.getElem?_setIfInBounds_ne (by omega)]; exact q9⟩, fun k hk => HX2.out k (by omega) (by omega) (by omega) (by omega), hz.trans hsz.symm, HD.out, HK.out⟩
  rw [Nat.sub_zero, List.take_length]
  exact HPP.out.n.push (nil_num _)

set_option maxHeartbeats 4000000 in
set_option maxRecDepth 100000 in
theorem leave_outer (c fb cap m G : Nat) (fs0 : Array Value) (ns : List Nat) (la : List (List Nat)) (mo : Option Nat) (so : Option (Nat × Nat)) (R : Nat) (ds1 ds2 : List Nat) (r7 g0 vv cv a0 a1 a2 a3 mc out : Value) (w : World) (hC : ChainV w c (.slice (some ⟨fb, 0, none⟩) 1 cap) la mo so R ds1 ds2) (hF : FrameQ w fb 0 fs0 m G ns mc) (hcur : ∀ k, k < 60 → k ≠ 3 → k ≠ 4 → k ≠ 8 → k ≠ 9 → fs0[k]? = ((frL g0 vv cv nilS (wrow4 a0 a1 a2 a3)).set 7 r7)[k]?) (hsz : 60 ≤ fs0.size) (hone : ∀ u ∈ (frL g0 vv cv nilS (wrow4 a0 a1 a2 a3)).set 7 r7, u.oneCell' = true) (o4 : mc.oneCell' = true) (hout : out.oneCell' = true) (hcap : 1 ≤ cap) :
    Calls Salg.prog 112 #[.pointer (some ⟨c, 0, none⟩), .int .u8 0, out] w fun e w' => ∃ (r vz wz mv rv lim gv0 lf pr tv : Value), e = .returned r ∧ w'.heap[c]? = some (.cells (chE vz wz mv rv out 0 lim gv0 lf pr tv) 119 (0, 0)) ∧ WorldS w' vz wz mv rv la mo so R ds1 ds2 ∧ NumV w' lim 200000 ∧ NumV w' pr 0 ∧ NumV w' tv 340282366920938463463374607431768211456 ∧ NumV w' lf G ∧ gv0.oneCell' = true ∧ Kept [c] w w' := by
  have M := Mem.start w []
  obtain ⟨fs, pv, gv, sv, xs, hr, h0, h2, h3, h4, h5, h6, h7, h8, h9, ha⟩ := hF
  obtain ⟨vz, wz, mv, rv, lim, gv0, pr, tv, c1, c2, c3, c4, c5, c6⟩ := hC
  have hfc : fb ∉ [c] := row_ne c1 hr (by rintro h; cases h)
  have HX : Hid (fs.extract 0 (0 + 60) = (frS ((frL g0 vv cv nilS (wrow4 a0 a1 a2 a3)).set 7 r7) pv gv sv mc).toArray) := frame_ext (by kernel_rfl) (by omega) (frS_get (f := fun k => fs[0 + k]?) (by kernel_rfl) (fun k k1 k3 k4 k8 k9 => (h2 (0 + k) (by omega) (by omega) (by omega) (by omega)).trans (by rw [Nat.zero_add]; exact hcur k k1 k3 k4 k8 k9)) h3 h5 h7 ha)
  have H1 := hid (frS_one hone h4.one h6.one h8.one o4)
  have HO := hid (chM_nb vz wz mv rv (.slice (some ⟨fb, 0, none⟩) 1 cap) nilS 1 0 lim gv0 nilS pr tv)
  replace c1 : w.heap[c]? = some (.cells (chM vz wz mv rv (.slice (some ⟨fb, 0, none⟩) 1 cap) nilS 1 0 lim gv0 nilS pr tv) 119 (0, 0)) := c1
  have HWC := hid c2
  have HC3 := hid c3
  have HC4 := hid c4
  have HC5 := hid c5
  have HG2 := hid h6
  have hcl := lt_of_row c1
  have z60 : 60 ≤ fs.size := by omega
  clear h2 h3 h4 h5 h6 h7 h8 h9 ha c2 c3 c4 c5 hcur h0 hone
  go_enter Salg.func112, Salg.ntmps112
  go_wp2_with fail
  refine S_region (by kernel_rfl) ?_
  refine E_float 0 13 [0, 1, 2, 3, 4, 5, 6, 7, 8, 9, 10, 11] 12 6 _ (by kernel_rfl) ⟨⟨_, _, _, _, _, rfl, zero142, rfl⟩⟩ (by simp) M.drew ?_
  clear M
  simp only [List.filterMap_cons, List.filterMap_nil, List.getElem?_cons_zero, List.getElem?_cons_succ]
  ((with_reducible apply E_run); rfl; rfl; (intro w M; go_simp; (try go_ints); (try simp only [↓IntWalk.iteOmega]); (try with_reducible rfl)); simp only [Act.put, List.setIfInBounds_toArray, List.set_cons_zero, List.set_cons_succ])
  ((with_reducible apply E_run); rfl; rfl; (intro w M; go_simp; (try go_ints); (try simp only [↓IntWalk.iteOmega]); (try with_reducible rfl)); simp only [Act.put, List.setIfInBounds_toArray, List.set_cons_zero, List.set_cons_succ])
  ((with_reducible apply E_run); rfl; rfl; (intro w M; go_simp; (try go_ints); (try simp only [↓IntWalk.iteOmega]); (try with_reducible rfl)); simp only [Act.put, List.setIfInBounds_toArray, List.set_cons_zero, List.set_cons_succ])
  ((with_reducible apply E_run); rfl; rfl; (intro w M; exact run_loadCell (M.kept.row c1 (by simp)) rfl (show (chM vz wz mv rv (.slice (some ⟨fb, 0, none⟩) 1 cap) nilS 1 0 lim gv0 nilS pr tv)[9]? = some (.slice (some ⟨fb, 0, none⟩) 1 cap) by kernel_rfl) Salg.underlying115 rfl); simp only [Act.put, List.setIfInBounds_toArray, List.set_cons_zero, List.set_cons_succ])
  ((with_reducible apply E_run); rfl; rfl; (intro w M; go_simp; (try go_ints); (try simp only [↓IntWalk.iteOmega]); (try with_reducible rfl)); simp only [Act.put, List.setIfInBounds_toArray, List.set_cons_zero, List.set_cons_succ])
  ((with_reducible apply E_run); rfl; rfl; (intro w M; go_simp; (try go_ints); (try simp only [↓IntWalk.iteOmega]); (try with_reducible rfl)); simp only [Act.put, List.setIfInBounds_toArray, List.set_cons_zero, List.set_cons_succ])
  ((with_reducible apply E_run); rfl; rfl; (intro w M; go_simp; (try go_ints); (try simp only [↓IntWalk.iteOmega]); (try with_reducible rfl)); simp only [Act.put, List.setIfInBounds_toArray, List.set_cons_zero, List.set_cons_succ])
  ((with_reducible apply E_run); rfl; rfl; (intro w M; exact run_loadCell (M.kept.row c1 (by simp)) rfl (show (chM vz wz mv rv (.slice (some ⟨fb, 0, none⟩) 1 cap) nilS 1 0 lim gv0 nilS pr tv)[9]? = some (.slice (some ⟨fb, 0, none⟩) 1 cap) by kernel_rfl) Salg.underlying115 rfl); simp only [Act.put, List.setIfInBounds_toArray, List.set_cons_zero, List.set_cons_succ])
  ((with_reducible apply E_run); rfl; rfl; (intro w M; go_simp; (try go_ints); (try simp only [↓IntWalk.iteOmega]); (try with_reducible rfl)); simp only [Act.put, List.setIfInBounds_toArray, List.set_cons_zero, List.set_cons_succ])
  ((with_reducible apply E_run); rfl; rfl; (intro w M; go_simp; (try go_ints); (try simp only [↓IntWalk.iteOmega]); (try with_reducible rfl)); simp only [Act.put, List.setIfInBounds_toArray, List.set_cons_zero, List.set_cons_succ])
  ((with_reducible apply E_run); rfl; rfl; (intro w M; go_simp; (try go_ints); (try simp only [↓IntWalk.iteOmega]); (try with_reducible rfl)); simp only [Act.put, List.setIfInBounds_toArray, List.set_cons_zero, List.set_cons_succ])
  ((with_reducible apply E_run (v := .agg (frS ((frL g0 vv cv nilS (wrow4 a0 a1 a2 a3)).set 7 r7) pv gv sv mc).toArray)); rfl; rfl; (intro w M; exact run_loadX (n := 60) (M.kept.row hr (by simp)) rfl Salg.underlying142 rfl size142 (by omega) HX.out); simp only [Act.put, List.setIfInBounds_toArray, List.set_cons_zero, List.set_cons_succ])
  refine E_nil ?_
  intro w1 K1 M
  clear K1
  intro t6 w2 K1 ht6 M
  clear K1
  simp only [Act.put, List.setIfInBounds_toArray, List.set_cons_zero, List.set_cons_succ]
  refine S_seg 13 14 (by kernel_rfl) (by decide) ?_
  simp only [List.take_succ_cons, List.take_zero, List.drop_zero, List.drop_succ_cons, Nat.sub_zero, Nat.reduceSub]
  go_wp2_with ((with_reducible apply W_storeK (b := t6) (vs := (frS ((frL g0 vv cv nilS (wrow4 a0 a1 a2 a3)).set 7 r7) pv gv sv mc).toArray)); rfl; rfl; exact M.r0; exact size142; rfl; exact H1.out; intro w3 K1 hr3; replace M := Mem.callPut (L1 := []) M (Or.inr ht6) K1 hr3; clear K1 hr3; simp only [List.nil_append] at M)
  refine S_done ?_
  go_wp2_with (first
    | ((with_reducible apply W_loadCell); rfl; exact M.r0; exact (show (frS ((frL g0 vv cv nilS (wrow4 a0 a1 a2 a3)).set 7 r7) pv gv sv mc).toArray[4]? = some gv by kernel_rfl); exact Salg.underlying89; rfl; simp only [Act.put, List.setIfInBounds_toArray, List.set_cons_zero, List.set_cons_succ])
    | ((with_reducible apply W_loadCell); rfl; exact M.r0; exact (show (frS ((frL g0 vv cv nilS (wrow4 a0 a1 a2 a3)).set 7 r7) pv gv sv mc).toArray[0]? = some (.int .u8 0) by kernel_rfl); exact Salg.underlying5; rfl; simp only [Act.put, List.setIfInBounds_toArray, List.set_cons_zero, List.set_cons_succ]))
  refine (creates_zero _).mono ?_
  rintro e w4 ⟨rfl, hw⟩
  replace hw := hw.symm
  subst hw
  replace c1 := M.kept.row c1 (by simp)
  replace HWC := hid (WorldW.kept HWC.out M.kept)
  replace HC3 := hid (HC3.out.kept M.kept)
  replace HC4 := hid (HC4.out.kept M.kept)
  replace HC5 := hid (HC5.out.kept M.kept)
  replace HG2 := hid (HG2.out.kept M.kept)
  have HK : Hid (Kept [c] w w3) := M.kept.mono (by simp)
  clear M
  go_wp2_with ((with_reducible apply W_stV (b := c) (o := 10) (v := out)); rfl; rfl; exact hout; exact c1; exact size40; exact Nat.le_of_ble_eq_true (by kernel_rfl); intro w6 K1 hr1; rw [show (chM vz wz mv rv (.slice (some ⟨fb, 0, none⟩) 1 cap) nilS 1 0 lim gv0 nilS pr tv).setIfInBounds 10 (out) = (chM vz wz mv rv (.slice (some ⟨fb, 0, none⟩) 1 cap) out 1 0 lim gv0 nilS pr tv) from by kernel_rfl] at hr1)
  replace HWC := hid (WorldW.keptC HWC.out K1 c1 HO.out wtype119)
  replace HC3 := hid (HC3.out.keptC K1 c1 HO.out)
  replace HC4 := hid (HC4.out.keptC K1 c1 HO.out)
  replace HC5 := hid (HC5.out.keptC K1 c1 HO.out)
  replace HG2 := hid (HG2.out.keptC K1 c1 HO.out)
  replace HK : Hid (Kept [c] w w6) := HK.out.trans (K1)
  replace HO := hid (chM_nb vz wz mv rv (.slice (some ⟨fb, 0, none⟩) 1 cap) out 1 0 lim gv0 nilS pr tv)
  replace c1 := hr1
  clear K1 hr1
  have M := Mem.start w6 []
  refine S_region (by kernel_rfl) ?_
  refine E_stage 0 18 [0, 1, 2, 3, 4, 5, 6, 7, 8, 9, 10, 11, 12, 13, 14, 15, 16, 17] (by kernel_rfl) M.drew ?_
  clear M
  simp only [List.filterMap_cons, List.filterMap_nil, List.getElem?_cons_zero, List.getElem?_cons_succ]
  ((with_reducible apply E_run); rfl; rfl; (intro w M; go_simp; (try go_ints); (try simp only [↓IntWalk.iteOmega]); (try with_reducible rfl)); simp only [Act.put, List.setIfInBounds_toArray, List.set_cons_zero, List.set_cons_succ])
  ((with_reducible apply E_run); rfl; rfl; (intro w M; go_simp; (try go_ints); (try simp only [↓IntWalk.iteOmega]); (try with_reducible rfl)); simp only [Act.put, List.setIfInBounds_toArray, List.set_cons_zero, List.set_cons_succ])
  ((with_reducible apply E_run); rfl; rfl; (intro w M; go_simp; (try go_ints); (try simp only [↓IntWalk.iteOmega]); (try with_reducible rfl)); simp only [Act.put, List.setIfInBounds_toArray, List.set_cons_zero, List.set_cons_succ])
  ((with_reducible apply E_run); rfl; rfl; (intro w M; go_simp; (try go_ints); (try simp only [↓IntWalk.iteOmega]); (try with_reducible rfl)); simp only [Act.put, List.setIfInBounds_toArray, List.set_cons_zero, List.set_cons_succ])
  ((with_reducible apply E_run); rfl; rfl; (intro w M; exact run_loadCell (M.kept.row c1 (by simp)) rfl (show (chM vz wz mv rv (.slice (some ⟨fb, 0, none⟩) 1 cap) out 1 0 lim gv0 nilS pr tv)[9]? = some (.slice (some ⟨fb, 0, none⟩) 1 cap) by kernel_rfl) Salg.underlying115 rfl); simp only [Act.put, List.setIfInBounds_toArray, List.set_cons_zero, List.set_cons_succ])
  ((with_reducible apply E_run); rfl; rfl; (intro w M; go_simp; (try go_ints); (try simp only [↓IntWalk.iteOmega]); (try with_reducible rfl)); simp only [Act.put, List.setIfInBounds_toArray, List.set_cons_zero, List.set_cons_succ])
  ((with_reducible apply E_run); rfl; rfl; (intro w M; go_simp; (try go_ints); (try simp only [↓IntWalk.iteOmega]); (try with_reducible rfl)); simp only [Act.put, List.setIfInBounds_toArray, List.set_cons_zero, List.set_cons_succ])
  ((with_reducible apply E_run); rfl; rfl; (intro w M; go_simp; (try go_ints); (try simp only [↓IntWalk.iteOmega]); (try with_reducible rfl)); simp only [Act.put, List.setIfInBounds_toArray, List.set_cons_zero, List.set_cons_succ])
  ((with_reducible apply E_run); rfl; rfl; (intro w M; exact run_loadCell (M.kept.row c1 (by simp)) rfl (show (chM vz wz mv rv (.slice (some ⟨fb, 0, none⟩) 1 cap) out 1 0 lim gv0 nilS pr tv)[9]? = some (.slice (some ⟨fb, 0, none⟩) 1 cap) by kernel_rfl) Salg.underlying115 rfl); simp only [Act.put, List.setIfInBounds_toArray, List.set_cons_zero, List.set_cons_succ])
  ((with_reducible apply E_run); rfl; rfl; (intro w M; go_simp; (try go_ints); (try simp only [↓IntWalk.iteOmega]); (try with_reducible rfl)); simp only [Act.put, List.setIfInBounds_toArray, List.set_cons_zero, List.set_cons_succ])
  ((with_reducible apply E_run); rfl; rfl; (intro w M; go_simp; (try go_ints); (try simp only [↓IntWalk.iteOmega]); (try with_reducible rfl)); simp only [Act.put, List.setIfInBounds_toArray, List.set_cons_zero, List.set_cons_succ])
  ((with_reducible apply E_run); rfl; rfl; (intro w M; go_simp; (try go_ints); (try simp only [↓IntWalk.iteOmega]); (try with_reducible rfl)); simp only [Act.put, List.setIfInBounds_toArray, List.set_cons_zero, List.set_cons_succ])
  ((with_reducible apply E_run); rfl; rfl; (intro w M; go_simp; (try go_ints); (try simp only [↓IntWalk.iteOmega]); (try with_reducible rfl)); simp only [Act.put, List.setIfInBounds_toArray, List.set_cons_zero, List.set_cons_succ])
  ((with_reducible apply E_run); rfl; rfl; (intro w M; go_simp; (try go_ints); (try simp only [↓IntWalk.iteOmega]); (try with_reducible rfl)); simp only [Act.put, List.setIfInBounds_toArray, List.set_cons_zero, List.set_cons_succ])
  ((with_reducible apply E_run); rfl; rfl; (intro w M; exact run_loadCell (M.kept.row c1 (by simp)) rfl (show (chM vz wz mv rv (.slice (some ⟨fb, 0, none⟩) 1 cap) out 1 0 lim gv0 nilS pr tv)[9]? = some (.slice (some ⟨fb, 0, none⟩) 1 cap) by kernel_rfl) Salg.underlying115 rfl); simp only [Act.put, List.setIfInBounds_toArray, List.set_cons_zero, List.set_cons_succ])
  ((with_reducible apply E_run); rfl; rfl; (intro w M; go_simp; (try go_ints); (try simp only [↓IntWalk.iteOmega]); (try with_reducible rfl)); simp only [Act.put, List.setIfInBounds_toArray, List.set_cons_zero, List.set_cons_succ])
  ((with_reducible apply E_run); rfl; rfl; (intro w M; go_simp; (try go_ints); (try simp only [↓IntWalk.iteOmega]); (try with_reducible rfl)); simp only [Act.put, List.setIfInBounds_toArray, List.set_cons_zero, List.set_cons_succ])
  ((with_reducible apply E_run); rfl; rfl; (intro w M; exact run_slice3 (n := 0) rfl rfl rfl (by omega) (by omega) Salg.underlying115 ⟨60, size142⟩ (by omega)); simp only [Act.put, List.setIfInBounds_toArray, List.set_cons_zero, List.set_cons_succ])
  refine E_nil ?_
  intro w7 K M
  clear K
  have c1' := M.kept.row c1 (by simp)
  refine S_seg 18 21 (by kernel_rfl) (by decide) ?_
  simp only [List.take_succ_cons, List.take_zero, List.drop_zero, List.drop_succ_cons, Nat.sub_zero, Nat.reduceSub]
  go_wp2_with ((with_reducible apply W_stV (b := c) (o := 9) (v := .slice (some ⟨fb, 0, none⟩) 0 0)); rfl; rfl; exact rfl; exact c1'; exact size115; exact Nat.le_of_ble_eq_true (by kernel_rfl); intro w8 K1 hr1; rw [show (chM vz wz mv rv (.slice (some ⟨fb, 0, none⟩) 1 cap) out 1 0 lim gv0 nilS pr tv).setIfInBounds 9 (.slice (some ⟨fb, 0, none⟩) 0 0) = (chM vz wz mv rv (.slice (some ⟨fb, 0, none⟩) 0 0) out 1 0 lim gv0 nilS pr tv) from by kernel_rfl] at hr1)
  replace HWC := hid (WorldW.keptC (WorldW.kept HWC.out M.kept) K1 c1' HO.out wtype119)
  replace HC3 := hid ((HC3.out.kept M.kept).keptC K1 c1' HO.out)
  replace HC4 := hid ((HC4.out.kept M.kept).keptC K1 c1' HO.out)
  replace HC5 := hid ((HC5.out.kept M.kept).keptC K1 c1' HO.out)
  replace HG2 := hid ((HG2.out.kept M.kept).keptC K1 c1' HO.out)
  replace HK : Hid (Kept [c] w w8) := HK.out.trans ((M.kept.mono (by simp)).trans K1)
  replace HO := hid (chM_nb vz wz mv rv (.slice (some ⟨fb, 0, none⟩) 0 0) out 1 0 lim gv0 nilS pr tv)
  replace c1 := hr1
  clear K1 hr1 M c1'
  have hgo := HG2.out.one
  refine S_done ?_
  go_wp2_with (first
    | ((with_reducible apply W_loadCell); rfl; exact c1; exact (show (chM vz wz mv rv (.slice (some ⟨fb, 0, none⟩) 0 0) out 1 0 lim gv0 nilS pr tv)[9]? = some (.slice (some ⟨fb, 0, none⟩) 0 0) by kernel_rfl); exact Salg.underlying115; rfl; simp only [Act.put, List.setIfInBounds_toArray, List.set_cons_zero, List.set_cons_succ])
    | ((with_reducible apply W_stV (b := c) (o := 9) (v := nilS)); rfl; rfl; exact rfl; exact c1; exact size115; exact Nat.le_of_ble_eq_true (by kernel_rfl); intro w9 Ka hra; rw [show (chM vz wz mv rv (.slice (some ⟨fb, 0, none⟩) 0 0) out 1 0 lim gv0 nilS pr tv).setIfInBounds 9 (nilS) = (chM vz wz mv rv (nilS) out 1 0 lim gv0 nilS pr tv) from by kernel_rfl] at hra)
    | ((with_reducible apply W_stV (b := c) (o := 11) (v := .int .u8 2)); rfl; rfl; exact rfl; exact hra; exact size5; exact Nat.le_of_ble_eq_true (by kernel_rfl); intro w10 Kb hrb; rw [show (chM vz wz mv rv (nilS) out 1 0 lim gv0 nilS pr tv).setIfInBounds 11 (.int .u8 2) = (chM vz wz mv rv (nilS) out 2 0 lim gv0 nilS pr tv) from by kernel_rfl] at hrb)
    | ((with_reducible apply W_stV (b := c) (o := 12) (v := .int .u8 0)); rfl; rfl; exact rfl; exact hrb; exact size5; exact Nat.le_of_ble_eq_true (by kernel_rfl); intro w11 Kc hrc; rw [show (chM vz wz mv rv (nilS) out 2 0 lim gv0 nilS pr tv).setIfInBounds 12 (.int .u8 0) = (chM vz wz mv rv (nilS) out 2 0 lim gv0 nilS pr tv) from by kernel_rfl] at hrc)
    | ((with_reducible apply W_stV (b := c) (o := 16) (v := gv)); rfl; rfl; exact hgo; exact hrc; exact size89; exact Nat.le_of_ble_eq_true (by kernel_rfl); intro w12 Kd hrd; rw [show (chM vz wz mv rv (nilS) out 2 0 lim gv0 nilS pr tv).setIfInBounds 16 (gv) = (chM vz wz mv rv (nilS) out 2 0 lim gv0 gv pr tv) from by kernel_rfl] at hrd))
  ((try simp only [Exit.inBlock, Exit.then]); refine bodyPost_ret (results_none rfl _ _ _) rfl ?_)
  have KK : Kept [c] w8 w12 := ((Ka.trans Kb).trans Kc).trans Kd
  exact ⟨_, vz, wz, mv, rv, lim, gv0, gv, pr, tv, rfl, hrd, WorldW.keptC HWC.out KK c1 HO.out wtype119, HC3.out.keptC KK c1 HO.out, HC4.out.keptC KK c1 HO.out, HC5.out.keptC KK c1 HO.out, HG2.out.keptC KK c1 HO.out, c6, HK.out.trans KK⟩
end Go.Proofs.YgcsalGreat

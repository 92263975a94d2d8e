/-
  The walk of (*yp.State).leave in a run of Context: a frame that makes nothing ends well.
-/
import Derived.Test.YgcsalGreatCx5
import Derived.Test.YgcsalGreatCp21
import Derived.Test.YgcsalGreatSl32
set_option linter.unusedSimpArgs false
set_option linter.unusedVariables false
namespace Go.Own
open Go.Proofs.YgcsalGreat
/-- The chain's cells, with its phase, its status and what is left. -/
def chP (E : XEnv) (wz fr rt : Value) (ph st : Nat) (lf : Value) : Array Value := (chL [E.vz, wz, nilS, nilS, nilS, nilS, E.md, nilS, nilS, fr, rt, .int .u8 (ph : Int), .int .u8 (st : Int), .int .u8 1, E.lim, E.gv, lf, E.pr, E.tv] (ad 240) E.ma).toArray
theorem chP_nb (E : XEnv) (wz fr rt : Value) (ph st : Nat) (lf : Value) : ∀ t l, Obj.cells (chP E wz fr rt ph st lf) 119 (0, 0) ≠ R8 t l := not_bytes_at (i := 4) (p := none) (n := 0) (m := 0) (by kernel_rfl)
/-- A transaction that has ended well. -/
def EndY (w : World) (c : Nat) (E : XEnv) (G : Nat) (out : List Nat) (la : List (List Nat)) : Prop := ∃ (wz rt lf : Value), w.heap[c]? = some (.cells (chP E wz nilS rt 2 0 lf) 119 (0, 0)) ∧ AdsV w wz la ∧ NumV w lf G ∧ NatV w rt out
theorem ext_get {fs : Array Value} {q k : Nat} (h : q + 60 ≤ fs.size) (hk : k < 60) : (fs.extract q (q + 60))[k]? = fs[q + k]? := by
  rw [Array.getElem?_extract, if_pos (by omega)]
theorem ext_size {fs : Array Value} {q : Nat} (h : q + 60 ≤ fs.size) : (fs.extract q (q + 60)).size = 60 := by
  rw [Array.size_extract]; omega
theorem ext_one {fs : Array Value} {q : Nat} (h : q + 60 ≤ fs.size) (ho : ∀ k u, k < 60 → fs[q + k]? = some u → u.oneCell' = true) : ∀ u ∈ (fs.extract q (q + 60)).toList, u.oneCell' = true := by
  intro u hu
  obtain ⟨k, hk, e⟩ := List.getElem_of_mem hu
  have hs := ext_size h
  have hk' : k < 60 := by
    have h1 := hk
    rw [Array.length_toList, hs] at h1
    exact h1
  refine ho k u hk' ?_
  rw [← ext_get h hk', Array.getElem?_eq_getElem (by omega)]
  simpa using e
end Go.Own
namespace Go.Proofs.YgcsalGreat
open Go.RowKit Go.Own

set_option maxHeartbeats 4000000 in
set_option maxRecDepth 100000 in
theorem leaveY_ok (c fb cap kd m1 G1 m2 G2 : Nat) (cur : Array Value) (ns2 : List Nat) (la : List (List Nat)) (E : XEnv) (rt pv1 gv1 sv1 r7 mv1 mv2 out : Value) (bs : List Nat) (w : World) (hC : ChY w c E (.slice (some ⟨fb, 0, none⟩) 1 cap) rt la) (hF : FrameQ w fb 0 cur m2 G2 ns2 mv2) (hkd : cur[0 + 0]? = some (.int .u8 (kd : Int))) (hcr : ∀ w, Calls Salg.prog 172 #[.int .u8 (kd : Int)] w fun e w' => e = .returned (.bool false) ∧ w' = w) (hone : ∀ k u, k < 60 → cur[0 + k]? = some u → u.oneCell' = true) (o4 : mv2.oneCell' = true) (hsz : cap * 60 ≤ cur.size) (hcap : 1 ≤ cap) (hcap2 : cap ≤ maxLen) (hout : NatV w out bs) :
    Calls Salg.prog 112 #[.pointer (some ⟨c, 0, none⟩), .int .u8 0, out] w fun e w' => ∃ (r : Value), e = .returned r ∧ EndY w' c E G2 bs la ∧ Kept [c] w w' := by
  have M := Mem.start w []
  obtain ⟨fs, pv2, gv2, sv2, xs2, hr, h0, h2, h3, h4, h5, h6, h7, h8, h9, ha⟩ := hF
  obtain ⟨wz, c1, c2⟩ := hC
  have hfc : fb ∉ [c] := row_ne c1 hr (by intro h; injection h with _ h _; exact absurd h (by decide))
  have hcf : c ∉ [fb] := row_ne hr c1 (by intro h; injection h with _ h _; exact absurd h (by decide))
  have hz : cap * 60 ≤ fs.size := by rw [h0]; exact hsz
  have hq : 0 + 60 ≤ fs.size := by omega
  have HFS := hid (ext_size (fs := fs) (q := 0) hq)
  have HF0 : Hid ((fs.extract 0 (0 + 60))[0]? = some (.int .u8 (kd : Int))) := by show _ = _; rw [ext_get hq (by decide), h2 (0 + 0) (by decide) (by decide) (by decide) (by decide)]; exact hkd
  have HF4 : Hid ((fs.extract 0 (0 + 60))[4]? = some gv2) := by show _ = _; rw [ext_get hq (by decide)]; exact h5
  have H1 : Hid (∀ u ∈ (fs.extract 0 (0 + 60)).toList, u.oneCell' = true) := ext_one hq (fun k u hk hu => by
    by_cases k3 : k = 3
    · subst k3; rw [h3] at hu; cases hu; exact h4.one
    by_cases k4 : k = 4
    · subst k4; rw [h5] at hu; cases hu; exact h6.one
    by_cases k8 : k = 8
    · subst k8; rw [h7] at hu; cases hu; exact h8.one
    by_cases k9 : k = 9
    · subst k9; rw [ha] at hu; cases hu; exact o4
    exact hone k u hk ((h2 (0 + k) (by omega) (by omega) (by omega) (by omega)).symm.trans hu))
  have HCR := hid hcr
  have HGV2 := hid h6
  obtain ⟨stp, stn, stc, est⟩ := rowV_slice h8
  rw [est] at h7
  have HNB := hid (not_bytes_at (tc := 142) h7)
  replace c1 : w.heap[c]? = some (.cells (chP E wz (.slice (some ⟨fb, 0, none⟩) 1 cap) rt 1 0 nilS) 119 (0, 0)) := c1
  have HO := hid (chP_nb E wz (.slice (some ⟨fb, 0, none⟩) 1 cap) rt 1 0 nilS)
  have HWZ := hid c2
  have houo := hout.one
  have HOU := hid hout
  have hfl := lt_of_row hr
  have hcl := lt_of_row c1
  have z4 : 0 + 4 < fs.size := by omega
  have HKC : Hid (Kept [c] w w) := Kept.refl _ _
  obtain ⟨po, co, rfl⟩ : ∃ po co, out = (Value.slice po bs.length co) := by
    obtain ⟨p, c, e, h1, _⟩ := hout
    exact ⟨p, c, e⟩
  have HH0 := hid h0
  clear h2 h3 h4 h5 h6 h7 h8 h9 ha c2  h0 hone hout hcr hkd est
  go_enter Salg.func112, Salg.ntmps112
  go_wp2_with fail
  refine S_region (by kernel_rfl) ?_
  refine E_float 0 13 [0, 1, 2, 3, 4, 5, 6, 7, 8, 9, 10, 11] 12 6 _ (by kernel_rfl) ⟨⟨_, _, _, _, _, rfl, zero142, rfl⟩⟩ (by simp) M.drew ?_
  clear M
  simp only [List.filterMap_cons, List.filterMap_nil, List.getElem?_cons_zero, List.getElem?_cons_succ]
  ((with_reducible apply E_run); rfl; rfl; (intro w M; go_simp; (try go_ints); (try simp only [↓IntWalk.iteOmega]); (try with_reducible rfl)); simp only [Act.put, List.setIfInBounds_toArray, List.set_cons_zero, List.set_cons_succ])
  ((with_reducible apply E_run); rfl; rfl; (intro w M; go_simp; (try go_ints); (try simp only [↓IntWalk.iteOmega]); (try with_reducible rfl)); simp only [Act.put, List.setIfInBounds_toArray, List.set_cons_zero, List.set_cons_succ])
  ((with_reducible apply E_run); rfl; rfl; (intro w M; go_simp; (try go_ints); (try simp only [↓IntWalk.iteOmega]); (try with_reducible rfl)); simp only [Act.put, List.setIfInBounds_toArray, List.set_cons_zero, List.set_cons_succ])
  ((with_reducible apply E_run); rfl; rfl; (intro w M; exact run_loadCell (M.kept.row c1 (by simp)) rfl (show (chP E wz (.slice (some ⟨fb, 0, none⟩) 1 cap) rt 1 0 nilS)[9]? = some (.slice (some ⟨fb, 0, none⟩) 1 cap) by kernel_rfl) Salg.underlying115 rfl); simp only [Act.put, List.setIfInBounds_toArray, List.set_cons_zero, List.set_cons_succ])
  ((with_reducible apply E_run); rfl; rfl; (intro w M; go_simp; (try go_ints); (try simp only [↓IntWalk.iteOmega]); (try with_reducible rfl)); simp only [Act.put, List.setIfInBounds_toArray, List.set_cons_zero, List.set_cons_succ])
  ((with_reducible apply E_run); rfl; rfl; (intro w M; go_simp; (try go_ints); (try simp only [↓IntWalk.iteOmega]); (try with_reducible rfl)); simp only [Act.put, List.setIfInBounds_toArray, List.set_cons_zero, List.set_cons_succ])
  ((with_reducible apply E_run); rfl; rfl; (intro w M; go_simp; (try go_ints); (try simp only [↓IntWalk.iteOmega]); (try with_reducible rfl)); simp only [Act.put, List.setIfInBounds_toArray, List.set_cons_zero, List.set_cons_succ])
  ((with_reducible apply E_run); rfl; rfl; (intro w M; exact run_loadCell (M.kept.row c1 (by simp)) rfl (show (chP E wz (.slice (some ⟨fb, 0, none⟩) 1 cap) rt 1 0 nilS)[9]? = some (.slice (some ⟨fb, 0, none⟩) 1 cap) by kernel_rfl) Salg.underlying115 rfl); simp only [Act.put, List.setIfInBounds_toArray, List.set_cons_zero, List.set_cons_succ])
  ((with_reducible apply E_run); rfl; rfl; (intro w M; go_simp; (try go_ints); (try simp only [↓IntWalk.iteOmega]); (try with_reducible rfl)); simp only [Act.put, List.setIfInBounds_toArray, List.set_cons_zero, List.set_cons_succ])
  ((with_reducible apply E_run); rfl; rfl; (intro w M; go_simp; (try go_ints); (try simp only [↓IntWalk.iteOmega]); (try with_reducible rfl)); simp only [Act.put, List.setIfInBounds_toArray, List.set_cons_zero, List.set_cons_succ])
  ((with_reducible apply E_run); rfl; rfl; (intro w M; go_simp; (try go_ints); (try simp only [↓IntWalk.iteOmega]); (try with_reducible rfl)); simp only [Act.put, List.setIfInBounds_toArray, List.set_cons_zero, List.set_cons_succ])
  ((with_reducible apply E_run (v := .agg (fs.extract 0 (0 + 60)))); rfl; rfl; (intro w M; exact run_loadX (n := 60) (M.kept.row hr (by simp)) rfl Salg.underlying142 rfl size142 (by omega) rfl); simp only [Act.put, List.setIfInBounds_toArray, List.set_cons_zero, List.set_cons_succ])
  refine E_nil ?_
  intro w1 K1 M
  clear K1
  intro t6 w2 K1 ht6 M
  clear K1
  simp only [Act.put, List.setIfInBounds_toArray, List.set_cons_zero, List.set_cons_succ]
  refine S_seg 13 14 (by kernel_rfl) (by decide) ?_
  simp only [List.take_succ_cons, List.take_zero, List.drop_zero, List.drop_succ_cons, Nat.sub_zero, Nat.reduceSub]
  go_wp2_with ((with_reducible apply W_storeK (b := t6) (vs := (fs.extract 0 (0 + 60)))); rfl; rfl; exact M.r0; exact size142; exact HFS.out; exact H1.out; intro w3 K1 hr3; replace M := Mem.callPut (L1 := []) M (Or.inr ht6) K1 hr3; clear K1 hr3; simp only [List.nil_append] at M)
  refine S_done ?_
  go_wp2_with (first
    | ((with_reducible apply W_loadCell); rfl; exact M.r0; exact HF4.out; exact Salg.underlying89; rfl; simp only [Act.put, List.setIfInBounds_toArray, List.set_cons_zero, List.set_cons_succ])
    | ((with_reducible apply W_loadCell); rfl; exact M.r0; exact HF0.out; exact Salg.underlying5; rfl; simp only [Act.put, List.setIfInBounds_toArray, List.set_cons_zero, List.set_cons_succ]))
  refine (HCR.out _).mono ?_
  rintro e w4 ⟨rfl, hw⟩
  replace hw := hw.symm
  subst hw
  replace c1 := M.kept.row c1 (by simp)
  replace hr := M.kept.row hr (by simp)
  replace HWZ := hid (HWZ.out.kept M.kept)
  replace HGV2 := hid (HGV2.out.kept M.kept)
  replace HOU := hid (HOU.out.kept M.kept)
  replace HKC : Hid (Kept [c] w w3) := M.kept.mono (by simp)
  clear M
  go_wp2_with ((with_reducible apply W_stV (b := c) (o := 10) (v := (Value.slice po bs.length co))); rfl; rfl; exact rfl; exact c1; exact size40; exact Nat.le_of_ble_eq_true (by kernel_rfl); intro w6 K1 hr1; rw [show (chP E wz (.slice (some ⟨fb, 0, none⟩) 1 cap) rt 1 0 nilS).setIfInBounds 10 ((Value.slice po bs.length co)) = (chP E wz (.slice (some ⟨fb, 0, none⟩) 1 cap) (Value.slice po bs.length co) 1 0 nilS) from by kernel_rfl] at hr1)
  replace HWZ := hid (HWZ.out.keptC K1 c1 (by decide))
  replace HGV2 := hid (HGV2.out.keptC K1 c1 HO.out)
  replace HOU := hid (HOU.out.keptC K1 c1 HO.out)
  replace HKC : Hid (Kept [c] w w6) := HKC.out.trans ((K1.mono (by simp)))
  replace hr := K1.row hr hfc
  replace HO := hid (chP_nb E wz (.slice (some ⟨fb, 0, none⟩) 1 cap) (Value.slice po bs.length co) 1 0 nilS)
  replace c1 := hr1
  clear K1 hr1
  have M := Mem.start w6 []
  refine S_region (by kernel_rfl) ?_
  refine E_stage 0 18 [0, 1, 2, 3, 4, 5, 6, 7, 8, 9, 10, 11, 12, 13, 14, 15, 16, 17] (by kernel_rfl) M.drew ?_
  clear M
  simp only [List.filterMap_cons, List.filterMap_nil, List.getElem?_cons_zero, List.getElem?_cons_succ]
  ((with_reducible apply E_run); rfl; rfl; (intro w M; go_simp; (try go_ints); (try simp only [↓IntWalk.iteOmega]); (try with_reducible rfl)); simp only [Act.put, List.setIfInBounds_toArray, List.set_cons_zero, List.set_cons_succ])
  ((with_reducible apply E_run); rfl; rfl; (intro w M; go_simp; (try go_ints); (try simp only [↓IntWalk.iteOmega]); (try with_reducible rfl)); simp only [Act.put, List.setIfInBounds_toArray, List.set_cons_zero, List.set_cons_succ])
  ((with_reducible apply E_run); rfl; rfl; (intro w M; go_simp; (try go_ints); (try simp only [↓IntWalk.iteOmega]); (try with_reducible rfl)); simp only [Act.put, List.setIfInBounds_toArray, List.set_cons_zero, List.set_cons_succ])
  ((with_reducible apply E_run); rfl; rfl; (intro w M; go_simp; (try go_ints); (try simp only [↓IntWalk.iteOmega]); (try with_reducible rfl)); simp only [Act.put, List.setIfInBounds_toArray, List.set_cons_zero, List.set_cons_succ])
  ((with_reducible apply E_run); rfl; rfl; (intro w M; exact run_loadCell (M.kept.row c1 (by simp)) rfl (show (chP E wz (.slice (some ⟨fb, 0, none⟩) 1 cap) (Value.slice po bs.length co) 1 0 nilS)[9]? = some (.slice (some ⟨fb, 0, none⟩) 1 cap) by kernel_rfl) Salg.underlying115 rfl); simp only [Act.put, List.setIfInBounds_toArray, List.set_cons_zero, List.set_cons_succ])
  ((with_reducible apply E_run); rfl; rfl; (intro w M; go_simp; (try go_ints); (try simp only [↓IntWalk.iteOmega]); (try with_reducible rfl)); simp only [Act.put, List.setIfInBounds_toArray, List.set_cons_zero, List.set_cons_succ])
  ((with_reducible apply E_run); rfl; rfl; (intro w M; go_simp; (try go_ints); (try simp only [↓IntWalk.iteOmega]); (try with_reducible rfl)); simp only [Act.put, List.setIfInBounds_toArray, List.set_cons_zero, List.set_cons_succ])
  ((with_reducible apply E_run); rfl; rfl; (intro w M; go_simp; (try go_ints); (try simp only [↓IntWalk.iteOmega]); (try with_reducible rfl)); simp only [Act.put, List.setIfInBounds_toArray, List.set_cons_zero, List.set_cons_succ])
  ((with_reducible apply E_run); rfl; rfl; (intro w M; exact run_loadCell (M.kept.row c1 (by simp)) rfl (show (chP E wz (.slice (some ⟨fb, 0, none⟩) 1 cap) (Value.slice po bs.length co) 1 0 nilS)[9]? = some (.slice (some ⟨fb, 0, none⟩) 1 cap) by kernel_rfl) Salg.underlying115 rfl); simp only [Act.put, List.setIfInBounds_toArray, List.set_cons_zero, List.set_cons_succ])
  ((with_reducible apply E_run); rfl; rfl; (intro w M; go_simp; (try go_ints); (try simp only [↓IntWalk.iteOmega]); (try with_reducible rfl)); simp only [Act.put, List.setIfInBounds_toArray, List.set_cons_zero, List.set_cons_succ])
  ((with_reducible apply E_run); rfl; rfl; (intro w M; go_simp; (try go_ints); (try simp only [↓IntWalk.iteOmega]); (try with_reducible rfl)); simp only [Act.put, List.setIfInBounds_toArray, List.set_cons_zero, List.set_cons_succ])
  ((with_reducible apply E_run); rfl; rfl; (intro w M; go_simp; (try go_ints); (try simp only [↓IntWalk.iteOmega]); (try with_reducible rfl)); simp only [Act.put, List.setIfInBounds_toArray, List.set_cons_zero, List.set_cons_succ])
  ((with_reducible apply E_run); rfl; rfl; (intro w M; go_simp; (try go_ints); (try simp only [↓IntWalk.iteOmega]); (try with_reducible rfl)); simp only [Act.put, List.setIfInBounds_toArray, List.set_cons_zero, List.set_cons_succ])
  ((with_reducible apply E_run); rfl; rfl; (intro w M; go_simp; (try go_ints); (try simp only [↓IntWalk.iteOmega]); (try with_reducible rfl)); simp only [Act.put, List.setIfInBounds_toArray, List.set_cons_zero, List.set_cons_succ])
  ((with_reducible apply E_run); rfl; rfl; (intro w M; exact run_loadCell (M.kept.row c1 (by simp)) rfl (show (chP E wz (.slice (some ⟨fb, 0, none⟩) 1 cap) (Value.slice po bs.length co) 1 0 nilS)[9]? = some (.slice (some ⟨fb, 0, none⟩) 1 cap) by kernel_rfl) Salg.underlying115 rfl); simp only [Act.put, List.setIfInBounds_toArray, List.set_cons_zero, List.set_cons_succ])
  ((with_reducible apply E_run); rfl; rfl; (intro w M; go_simp; (try go_ints); (try simp only [↓IntWalk.iteOmega]); (try with_reducible rfl)); simp only [Act.put, List.setIfInBounds_toArray, List.set_cons_zero, List.set_cons_succ])
  ((with_reducible apply E_run); rfl; rfl; (intro w M; go_simp; (try go_ints); (try simp only [↓IntWalk.iteOmega]); (try with_reducible rfl)); simp only [Act.put, List.setIfInBounds_toArray, List.set_cons_zero, List.set_cons_succ])
  ((with_reducible apply E_run); rfl; rfl; (intro w M; exact run_slice3 (n := 0) rfl rfl rfl (by omega) (by omega) Salg.underlying115 ⟨60, size142⟩ (by omega)); simp only [Act.put, List.setIfInBounds_toArray, List.set_cons_zero, List.set_cons_succ])
  refine E_nil ?_
  intro w7 K M
  clear K
  have c1' := M.kept.row c1 (by simp)
  refine S_seg 18 21 (by kernel_rfl) (by decide) ?_
  simp only [List.take_succ_cons, List.take_zero, List.drop_zero, List.drop_succ_cons, Nat.sub_zero, Nat.reduceSub]
  go_wp2_with ((with_reducible apply W_stV (b := c) (o := 9) (v := .slice (some ⟨fb, 0, none⟩) 0 0)); rfl; rfl; exact rfl; exact c1'; exact size115; exact Nat.le_of_ble_eq_true (by kernel_rfl); intro w8 K1 hr1; rw [show (chP E wz (.slice (some ⟨fb, 0, none⟩) 1 cap) (Value.slice po bs.length co) 1 0 nilS).setIfInBounds 9 (.slice (some ⟨fb, 0, none⟩) 0 0) = (chP E wz (.slice (some ⟨fb, 0, none⟩) 0 0) (Value.slice po bs.length co) 1 0 nilS) from by kernel_rfl] at hr1)
  replace HWZ := hid ((HWZ.out.kept M.kept).keptC K1 c1' (by decide))
  replace HGV2 := hid ((HGV2.out.kept M.kept).keptC K1 c1' HO.out)
  replace HOU := hid ((HOU.out.kept M.kept).keptC K1 c1' HO.out)
  replace HKC : Hid (Kept [c] w w8) := HKC.out.trans ((M.kept.mono (by simp)).trans (K1.mono (by simp)))
  replace hr := K1.row (M.kept.row hr (by simp)) hfc
  replace HO := hid (chP_nb E wz (.slice (some ⟨fb, 0, none⟩) 0 0) (Value.slice po bs.length co) 1 0 nilS)
  replace c1 := hr1
  clear K1 hr1 M c1'
  have hgo := HGV2.out.one
  refine S_done ?_
  go_wp2_with (first
    | ((with_reducible apply W_loadCell); rfl; exact c1; exact (show (chP E wz (.slice (some ⟨fb, 0, none⟩) 0 0) (Value.slice po bs.length co) 1 0 nilS)[9]? = some (.slice (some ⟨fb, 0, none⟩) 0 0) by kernel_rfl); exact Salg.underlying115; rfl; simp only [Act.put, List.setIfInBounds_toArray, List.set_cons_zero, List.set_cons_succ])
    | ((with_reducible apply W_stV (b := c) (o := 9) (v := nilS)); rfl; rfl; exact rfl; exact c1; exact size115; exact Nat.le_of_ble_eq_true (by kernel_rfl); intro w9 Ka hra; rw [show (chP E wz (.slice (some ⟨fb, 0, none⟩) 0 0) (Value.slice po bs.length co) 1 0 nilS).setIfInBounds 9 (nilS) = (chP E wz (nilS) (Value.slice po bs.length co) 1 0 nilS) from by kernel_rfl] at hra)
    | ((with_reducible apply W_stV (b := c) (o := 11) (v := .int .u8 2)); rfl; rfl; exact rfl; exact hra; exact size5; exact Nat.le_of_ble_eq_true (by kernel_rfl); intro w10 Kb hrb; rw [show (chP E wz (nilS) (Value.slice po bs.length co) 1 0 nilS).setIfInBounds 11 (.int .u8 2) = (chP E wz (nilS) (Value.slice po bs.length co) 2 0 nilS) from by kernel_rfl] at hrb)
    | ((with_reducible apply W_stV (b := c) (o := 12) (v := .int .u8 0)); rfl; rfl; exact rfl; exact hrb; exact size5; exact Nat.le_of_ble_eq_true (by kernel_rfl); intro w11 Kc hrc; rw [show (chP E wz (nilS) (Value.slice po bs.length co) 2 0 nilS).setIfInBounds 12 (.int .u8 0) = (chP E wz (nilS) (Value.slice po bs.length co) 2 0 nilS) from by kernel_rfl] at hrc)
    | ((with_reducible apply W_stV (b := c) (o := 16) (v := gv2)); rfl; rfl; exact hgo; exact hrc; exact size89; exact Nat.le_of_ble_eq_true (by kernel_rfl); intro w12 Kd hrd; rw [show (chP E wz (nilS) (Value.slice po bs.length co) 2 0 nilS).setIfInBounds 16 (gv2) = (chP E wz (nilS) (Value.slice po bs.length co) 2 0 gv2) from by kernel_rfl] at hrd))
  ((try simp only [Exit.inBlock, Exit.then]); refine bodyPost_ret (results_none rfl _ _ _) rfl ?_)
  have KK : Kept [c] w8 w12 := ((Ka.trans Kb).trans Kc).trans Kd
  exact ⟨_, rfl, ⟨wz, (Value.slice po bs.length co), gv2, hrd, HWZ.out.keptC KK c1 (by decide), HGV2.out.keptC KK c1 HO.out, HOU.out.keptC KK c1 HO.out⟩, HKC.out.trans KK⟩

set_option maxHeartbeats 4000000 in
set_option maxRecDepth 100000 in
theorem leaveY_in2 (c fb cap kd m1 G1 m2 G2 : Nat) (cur : Array Value) (ns2 : List Nat) (la : List (List Nat)) (E : XEnv) (rt pv1 gv1 sv1 r7 mv1 mv2 out : Value) (bs : List Nat) (w : World) (hC : ChY w c E (.slice (some ⟨fb, 0, none⟩) 2 cap) rt la) (hF : FrameQ w fb 60 cur m2 G2 ns2 mv2) (hkd : cur[60 + 0]? = some (.int .u8 (kd : Int))) (hcr : ∀ w, Calls Salg.prog 172 #[.int .u8 (kd : Int)] w fun e w' => e = .returned (.bool false) ∧ w' = w) (hone : ∀ k u, k < 60 → cur[60 + k]? = some u → u.oneCell' = true) (o4 : mv2.oneCell' = true) (hsz : cap * 60 ≤ cur.size) (hcap : 2 ≤ cap) (hcap2 : cap ≤ maxLen) (hout : NatV w out bs) (hP : PartsV w pv1 gv1 sv1 [] m1 G1 []) (p3 : cur[0 + 3]? = some pv1) (p4 : cur[0 + 4]? = some gv1) (p7 : cur[0 + 7]? = some r7) (p8 : cur[0 + 8]? = some sv1) (p9 : cur[0 + 9]? = some mv1) (h7' : NumV w r7 0) (hm : m1 ≤ 900) (hG1 : G1 < 256 ^ 100) (hG2 : G2 < 256 ^ 100) (hbl : bs.length ≤ 1000) :
    Calls Salg.prog 112 #[.pointer (some ⟨c, 0, none⟩), .int .u8 0, out] w fun e w' => ∃ (r : Value) (fs1 : Array Value), e = .returned r ∧ ChY w' c E (.slice (some ⟨fb, 0, none⟩) 1 1) out la ∧ FrameQ w' fb 0 fs1 (m1 + 1) (G1 + G2) [1] mv1 ∧ (∀ k, k < 60 → fs1[k]? = cur[k]?) ∧ fs1.size = cur.size ∧ NatV w' out bs ∧ Kept [c, fb] w w' := by
  have M := Mem.start w []
  obtain ⟨fs, pv2, gv2, sv2, xs2, hr, h0, h2, h3, h4, h5, h6, h7, h8, h9, ha⟩ := hF
  obtain ⟨wz, c1, c2⟩ := hC
  have hfc : fb ∉ [c] := row_ne c1 hr (by intro h; injection h with _ h _; exact absurd h (by decide))
  have hcf : c ∉ [fb] := row_ne hr c1 (by intro h; injection h with _ h _; exact absurd h (by decide))
  have hz : cap * 60 ≤ fs.size := by rw [h0]; exact hsz
  have hq : 60 + 60 ≤ fs.size := by omega
  have HFS := hid (ext_size (fs := fs) (q := 60) hq)
  have HF0 : Hid ((fs.extract 60 (60 + 60))[0]? = some (.int .u8 (kd : Int))) := by show _ = _; rw [ext_get hq (by decide), h2 (60 + 0) (by decide) (by decide) (by decide) (by decide)]; exact hkd
  have HF4 : Hid ((fs.extract 60 (60 + 60))[4]? = some gv2) := by show _ = _; rw [ext_get hq (by decide)]; exact h5
  have H1 : Hid (∀ u ∈ (fs.extract 60 (60 + 60)).toList, u.oneCell' = true) := ext_one hq (fun k u hk hu => by
    by_cases k3 : k = 3
    · subst k3; rw [h3] at hu; cases hu; exact h4.one
    by_cases k4 : k = 4
    · subst k4; rw [h5] at hu; cases hu; exact h6.one
    by_cases k8 : k = 8
    · subst k8; rw [h7] at hu; cases hu; exact h8.one
    by_cases k9 : k = 9
    · subst k9; rw [ha] at hu; cases hu; exact o4
    exact hone k u hk ((h2 (60 + k) (by omega) (by omega) (by omega) (by omega)).symm.trans hu))
  have HCR := hid hcr
  have HGV2 := hid h6
  have q3 : fs[0 + 3]? = some pv1 := (h2 (0 + 3) (by decide) (by decide) (by decide) (by decide)).trans p3
  have q4 : fs[0 + 4]? = some gv1 := (h2 (0 + 4) (by decide) (by decide) (by decide) (by decide)).trans p4
  have q7 : fs[0 + 7]? = some r7 := (h2 (0 + 7) (by decide) (by decide) (by decide) (by decide)).trans p7
  have q8 : fs[0 + 8]? = some sv1 := (h2 (0 + 8) (by decide) (by decide) (by decide) (by decide)).trans p8
  have q9 : fs[0 + 9]? = some mv1 := (h2 (0 + 9) (by decide) (by decide) (by decide) (by decide)).trans p9
  have HX2 : Hid (∀ k, k ≠ 60 + 3 → k ≠ 60 + 4 → k ≠ 60 + 8 → k ≠ 60 + 9 → fs[k]? = cur[k]?) := h2
  have HPV := hid hP.p
  have HG1 := hid hP.g
  have HS1 := hid hP.s
  have HR7 := hid h7'
  obtain ⟨stp, stn, stc, est⟩ := rowV_slice h8
  rw [est] at h7
  have HNB := hid (not_bytes_at (tc := 142) h7)
  replace c1 : w.heap[c]? = some (.cells (chP E wz (.slice (some ⟨fb, 0, none⟩) 2 cap) rt 1 0 nilS) 119 (0, 0)) := c1
  have HO := hid (chP_nb E wz (.slice (some ⟨fb, 0, none⟩) 2 cap) rt 1 0 nilS)
  have HWZ := hid c2
  have houo := hout.one
  have HOU := hid hout
  have hfl := lt_of_row hr
  have hcl := lt_of_row c1
  have z4 : 0 + 4 < fs.size := by omega
  have HK : Hid (Kept [c, fb] w w) := Kept.refl _ _
  obtain ⟨po, co, rfl⟩ : ∃ po co, out = (Value.slice po bs.length co) := by
    obtain ⟨p, c, e, h1, _⟩ := hout
    exact ⟨p, c, e⟩
  have HH0 := hid h0
  clear h2 h3 h4 h5 h6 h7 h8 h9 ha c2 hP h7' p3 p4 p7 p8 p9 h0 hone hout hcr hkd est
  go_enter Salg.func112, Salg.ntmps112
  go_wp2_with fail
  refine S_region (by kernel_rfl) ?_
  refine E_float 0 13 [0, 1, 2, 3, 4, 5, 6, 7, 8, 9, 10, 11] 12 6 _ (by kernel_rfl) ⟨⟨_, _, _, _, _, rfl, zero142, rfl⟩⟩ (by simp) M.drew ?_
  clear M
  simp only [List.filterMap_cons, List.filterMap_nil, List.getElem?_cons_zero, List.getElem?_cons_succ]
  ((with_reducible apply E_run); rfl; rfl; (intro w M; go_simp; (try go_ints); (try simp only [↓IntWalk.iteOmega]); (try with_reducible rfl)); simp only [Act.put, List.setIfInBounds_toArray, List.set_cons_zero, List.set_cons_succ])
  ((with_reducible apply E_run); rfl; rfl; (intro w M; go_simp; (try go_ints); (try simp only [↓IntWalk.iteOmega]); (try with_reducible rfl)); simp only [Act.put, List.setIfInBounds_toArray, List.set_cons_zero, List.set_cons_succ])
  ((with_reducible apply E_run); rfl; rfl; (intro w M; go_simp; (try go_ints); (try simp only [↓IntWalk.iteOmega]); (try with_reducible rfl)); simp only [Act.put, List.setIfInBounds_toArray, List.set_cons_zero, List.set_cons_succ])
  ((with_reducible apply E_run); rfl; rfl; (intro w M; exact run_loadCell (M.kept.row c1 (by simp)) rfl (show (chP E wz (.slice (some ⟨fb, 0, none⟩) 2 cap) rt 1 0 nilS)[9]? = some (.slice (some ⟨fb, 0, none⟩) 2 cap) by kernel_rfl) Salg.underlying115 rfl); simp only [Act.put, List.setIfInBounds_toArray, List.set_cons_zero, List.set_cons_succ])
  ((with_reducible apply E_run); rfl; rfl; (intro w M; go_simp; (try go_ints); (try simp only [↓IntWalk.iteOmega]); (try with_reducible rfl)); simp only [Act.put, List.setIfInBounds_toArray, List.set_cons_zero, List.set_cons_succ])
  ((with_reducible apply E_run); rfl; rfl; (intro w M; go_simp; (try go_ints); (try simp only [↓IntWalk.iteOmega]); (try with_reducible rfl)); simp only [Act.put, List.setIfInBounds_toArray, List.set_cons_zero, List.set_cons_succ])
  ((with_reducible apply E_run); rfl; rfl; (intro w M; go_simp; (try go_ints); (try simp only [↓IntWalk.iteOmega]); (try with_reducible rfl)); simp only [Act.put, List.setIfInBounds_toArray, List.set_cons_zero, List.set_cons_succ])
  ((with_reducible apply E_run); rfl; rfl; (intro w M; exact run_loadCell (M.kept.row c1 (by simp)) rfl (show (chP E wz (.slice (some ⟨fb, 0, none⟩) 2 cap) rt 1 0 nilS)[9]? = some (.slice (some ⟨fb, 0, none⟩) 2 cap) by kernel_rfl) Salg.underlying115 rfl); simp only [Act.put, List.setIfInBounds_toArray, List.set_cons_zero, List.set_cons_succ])
  ((with_reducible apply E_run); rfl; rfl; (intro w M; go_simp; (try go_ints); (try simp only [↓IntWalk.iteOmega]); (try with_reducible rfl)); simp only [Act.put, List.setIfInBounds_toArray, List.set_cons_zero, List.set_cons_succ])
  ((with_reducible apply E_run); rfl; rfl; (intro w M; go_simp; (try go_ints); (try simp only [↓IntWalk.iteOmega]); (try with_reducible rfl)); simp only [Act.put, List.setIfInBounds_toArray, List.set_cons_zero, List.set_cons_succ])
  ((with_reducible apply E_run); rfl; rfl; (intro w M; go_simp; (try go_ints); (try simp only [↓IntWalk.iteOmega]); (try with_reducible rfl)); simp only [Act.put, List.setIfInBounds_toArray, List.set_cons_zero, List.set_cons_succ])
  ((with_reducible apply E_run (v := .agg (fs.extract 60 (60 + 60)))); rfl; rfl; (intro w M; exact run_loadX (n := 60) (M.kept.row hr (by simp)) rfl Salg.underlying142 rfl size142 (by omega) rfl); simp only [Act.put, List.setIfInBounds_toArray, List.set_cons_zero, List.set_cons_succ])
  refine E_nil ?_
  intro w1 K1 M
  clear K1
  intro t6 w2 K1 ht6 M
  clear K1
  simp only [Act.put, List.setIfInBounds_toArray, List.set_cons_zero, List.set_cons_succ]
  refine S_seg 13 14 (by kernel_rfl) (by decide) ?_
  simp only [List.take_succ_cons, List.take_zero, List.drop_zero, List.drop_succ_cons, Nat.sub_zero, Nat.reduceSub]
  go_wp2_with ((with_reducible apply W_storeK (b := t6) (vs := (fs.extract 60 (60 + 60)))); rfl; rfl; exact M.r0; exact size142; exact HFS.out; exact H1.out; intro w3 K1 hr3; replace M := Mem.callPut (L1 := []) M (Or.inr ht6) K1 hr3; clear K1 hr3; simp only [List.nil_append] at M)
  refine S_done ?_
  go_wp2_with (first
    | ((with_reducible apply W_loadCell); rfl; exact M.r0; exact HF4.out; exact Salg.underlying89; rfl; simp only [Act.put, List.setIfInBounds_toArray, List.set_cons_zero, List.set_cons_succ])
    | ((with_reducible apply W_loadCell); rfl; exact M.r0; exact HF0.out; exact Salg.underlying5; rfl; simp only [Act.put, List.setIfInBounds_toArray, List.set_cons_zero, List.set_cons_succ]))
  refine (HCR.out _).mono ?_
  rintro e w4 ⟨rfl, hw⟩
  replace hw := hw.symm
  subst hw
  replace c1 := M.kept.row c1 (by simp)
  replace hr := M.kept.row hr (by simp)
  replace HWZ := hid (HWZ.out.kept M.kept)
  replace HGV2 := hid (HGV2.out.kept M.kept)
  replace HOU := hid (HOU.out.kept M.kept)
  replace HPV := hid (HPV.out.kept M.kept)
  replace HG1 := hid (HG1.out.kept M.kept)
  replace HS1 := hid (HS1.out.kept M.kept)
  replace HR7 := hid (HR7.out.kept M.kept)
  replace HK : Hid (Kept [c, fb] w w3) := M.kept.mono (by simp)
  clear M
  go_wp2_with ((with_reducible apply W_stV (b := c) (o := 10) (v := (Value.slice po bs.length co))); rfl; rfl; exact rfl; exact c1; exact size40; exact Nat.le_of_ble_eq_true (by kernel_rfl); intro w6 K1 hr1; rw [show (chP E wz (.slice (some ⟨fb, 0, none⟩) 2 cap) rt 1 0 nilS).setIfInBounds 10 ((Value.slice po bs.length co)) = (chP E wz (.slice (some ⟨fb, 0, none⟩) 2 cap) (Value.slice po bs.length co) 1 0 nilS) from by kernel_rfl] at hr1)
  replace HWZ := hid (HWZ.out.keptC K1 c1 (by decide))
  replace HGV2 := hid (HGV2.out.keptC K1 c1 HO.out)
  replace HOU := hid (HOU.out.keptC K1 c1 HO.out)
  replace HPV := hid (HPV.out.keptC K1 c1 HO.out)
  replace HG1 := hid (HG1.out.keptC K1 c1 HO.out)
  replace HS1 := hid (HS1.out.keptC K1 c1 (by decide))
  replace HR7 := hid (HR7.out.keptC K1 c1 HO.out)
  replace HK : Hid (Kept [c, fb] w w6) := HK.out.trans ((K1.mono (by simp)))
  replace hr := K1.row hr hfc
  replace HO := hid (chP_nb E wz (.slice (some ⟨fb, 0, none⟩) 2 cap) (Value.slice po bs.length co) 1 0 nilS)
  replace c1 := hr1
  clear K1 hr1
  have M := Mem.start w6 []
  refine S_region (by kernel_rfl) ?_
  refine E_stage 0 18 [0, 1, 2, 3, 4, 5, 6, 7, 8, 9, 10, 11, 12, 13, 14, 15, 16, 17] (by kernel_rfl) M.drew ?_
  clear M
  simp only [List.filterMap_cons, List.filterMap_nil, List.getElem?_cons_zero, List.getElem?_cons_succ]
  ((with_reducible apply E_run); rfl; rfl; (intro w M; go_simp; (try go_ints); (try simp only [↓IntWalk.iteOmega]); (try with_reducible rfl)); simp only [Act.put, List.setIfInBounds_toArray, List.set_cons_zero, List.set_cons_succ])
  ((with_reducible apply E_run); rfl; rfl; (intro w M; go_simp; (try go_ints); (try simp only [↓IntWalk.iteOmega]); (try with_reducible rfl)); simp only [Act.put, List.setIfInBounds_toArray, List.set_cons_zero, List.set_cons_succ])
  ((with_reducible apply E_run); rfl; rfl; (intro w M; go_simp; (try go_ints); (try simp only [↓IntWalk.iteOmega]); (try with_reducible rfl)); simp only [Act.put, List.setIfInBounds_toArray, List.set_cons_zero, List.set_cons_succ])
  ((with_reducible apply E_run); rfl; rfl; (intro w M; go_simp; (try go_ints); (try simp only [↓IntWalk.iteOmega]); (try with_reducible rfl)); simp only [Act.put, List.setIfInBounds_toArray, List.set_cons_zero, List.set_cons_succ])
  ((with_reducible apply E_run); rfl; rfl; (intro w M; exact run_loadCell (M.kept.row c1 (by simp)) rfl (show (chP E wz (.slice (some ⟨fb, 0, none⟩) 2 cap) (Value.slice po bs.length co) 1 0 nilS)[9]? = some (.slice (some ⟨fb, 0, none⟩) 2 cap) by kernel_rfl) Salg.underlying115 rfl); simp only [Act.put, List.setIfInBounds_toArray, List.set_cons_zero, List.set_cons_succ])
  ((with_reducible apply E_run); rfl; rfl; (intro w M; go_simp; (try go_ints); (try simp only [↓IntWalk.iteOmega]); (try with_reducible rfl)); simp only [Act.put, List.setIfInBounds_toArray, List.set_cons_zero, List.set_cons_succ])
  ((with_reducible apply E_run); rfl; rfl; (intro w M; go_simp; (try go_ints); (try simp only [↓IntWalk.iteOmega]); (try with_reducible rfl)); simp only [Act.put, List.setIfInBounds_toArray, List.set_cons_zero, List.set_cons_succ])
  ((with_reducible apply E_run); rfl; rfl; (intro w M; go_simp; (try go_ints); (try simp only [↓IntWalk.iteOmega]); (try with_reducible rfl)); simp only [Act.put, List.setIfInBounds_toArray, List.set_cons_zero, List.set_cons_succ])
  ((with_reducible apply E_run); rfl; rfl; (intro w M; exact run_loadCell (M.kept.row c1 (by simp)) rfl (show (chP E wz (.slice (some ⟨fb, 0, none⟩) 2 cap) (Value.slice po bs.length co) 1 0 nilS)[9]? = some (.slice (some ⟨fb, 0, none⟩) 2 cap) by kernel_rfl) Salg.underlying115 rfl); simp only [Act.put, List.setIfInBounds_toArray, List.set_cons_zero, List.set_cons_succ])
  ((with_reducible apply E_run); rfl; rfl; (intro w M; go_simp; (try go_ints); (try simp only [↓IntWalk.iteOmega]); (try with_reducible rfl)); simp only [Act.put, List.setIfInBounds_toArray, List.set_cons_zero, List.set_cons_succ])
  ((with_reducible apply E_run); rfl; rfl; (intro w M; go_simp; (try go_ints); (try simp only [↓IntWalk.iteOmega]); (try with_reducible rfl)); simp only [Act.put, List.setIfInBounds_toArray, List.set_cons_zero, List.set_cons_succ])
  ((with_reducible apply E_run); rfl; rfl; (intro w M; go_simp; (try go_ints); (try simp only [↓IntWalk.iteOmega]); (try with_reducible rfl)); simp only [Act.put, List.setIfInBounds_toArray, List.set_cons_zero, List.set_cons_succ])
  ((with_reducible apply E_run); rfl; rfl; (intro w M; go_simp; (try go_ints); (try simp only [↓IntWalk.iteOmega]); (try with_reducible rfl)); simp only [Act.put, List.setIfInBounds_toArray, List.set_cons_zero, List.set_cons_succ])
  ((with_reducible apply E_run); rfl; rfl; (intro w M; go_simp; (try go_ints); (try simp only [↓IntWalk.iteOmega]); (try with_reducible rfl)); simp only [Act.put, List.setIfInBounds_toArray, List.set_cons_zero, List.set_cons_succ])
  ((with_reducible apply E_run); rfl; rfl; (intro w M; exact run_loadCell (M.kept.row c1 (by simp)) rfl (show (chP E wz (.slice (some ⟨fb, 0, none⟩) 2 cap) (Value.slice po bs.length co) 1 0 nilS)[9]? = some (.slice (some ⟨fb, 0, none⟩) 2 cap) by kernel_rfl) Salg.underlying115 rfl); simp only [Act.put, List.setIfInBounds_toArray, List.set_cons_zero, List.set_cons_succ])
  ((with_reducible apply E_run); rfl; rfl; (intro w M; go_simp; (try go_ints); (try simp only [↓IntWalk.iteOmega]); (try with_reducible rfl)); simp only [Act.put, List.setIfInBounds_toArray, List.set_cons_zero, List.set_cons_succ])
  ((with_reducible apply E_run); rfl; rfl; (intro w M; go_simp; (try go_ints); (try simp only [↓IntWalk.iteOmega]); (try with_reducible rfl)); simp only [Act.put, List.setIfInBounds_toArray, List.set_cons_zero, List.set_cons_succ])
  ((with_reducible apply E_run); rfl; rfl; (intro w M; exact run_slice3 (n := 1) rfl rfl rfl (by omega) (by omega) Salg.underlying115 ⟨60, size142⟩ (by omega)); simp only [Act.put, List.setIfInBounds_toArray, List.set_cons_zero, List.set_cons_succ])
  refine E_nil ?_
  intro w7 K M
  clear K
  have c1' := M.kept.row c1 (by simp)
  refine S_seg 18 21 (by kernel_rfl) (by decide) ?_
  simp only [List.take_succ_cons, List.take_zero, List.drop_zero, List.drop_succ_cons, Nat.sub_zero, Nat.reduceSub]
  go_wp2_with ((with_reducible apply W_stV (b := c) (o := 9) (v := .slice (some ⟨fb, 0, none⟩) 1 1)); rfl; rfl; exact rfl; exact c1'; exact size115; exact Nat.le_of_ble_eq_true (by kernel_rfl); intro w8 K1 hr1; rw [show (chP E wz (.slice (some ⟨fb, 0, none⟩) 2 cap) (Value.slice po bs.length co) 1 0 nilS).setIfInBounds 9 (.slice (some ⟨fb, 0, none⟩) 1 1) = (chP E wz (.slice (some ⟨fb, 0, none⟩) 1 1) (Value.slice po bs.length co) 1 0 nilS) from by kernel_rfl] at hr1)
  replace HWZ := hid ((HWZ.out.kept M.kept).keptC K1 c1' (by decide))
  replace HGV2 := hid ((HGV2.out.kept M.kept).keptC K1 c1' HO.out)
  replace HOU := hid ((HOU.out.kept M.kept).keptC K1 c1' HO.out)
  replace HPV := hid ((HPV.out.kept M.kept).keptC K1 c1' HO.out)
  replace HG1 := hid ((HG1.out.kept M.kept).keptC K1 c1' HO.out)
  replace HS1 := hid ((HS1.out.kept M.kept).keptC K1 c1' (by decide))
  replace HR7 := hid ((HR7.out.kept M.kept).keptC K1 c1' HO.out)
  replace HK : Hid (Kept [c, fb] w w8) := HK.out.trans ((M.kept.mono (by simp)).trans (K1.mono (by simp)))
  replace hr := K1.row (M.kept.row hr (by simp)) hfc
  replace HO := hid (chP_nb E wz (.slice (some ⟨fb, 0, none⟩) 1 1) (Value.slice po bs.length co) 1 0 nilS)
  replace c1 := hr1
  clear K1 hr1 M c1'
  have M := Mem.start w8 []
  refine S_done ?_
  go_wp2_with ((with_reducible apply W_loadCell); rfl; exact M.kept.row c1 (by simp); exact (show (chP E wz (.slice (some ⟨fb, 0, none⟩) 1 1) (Value.slice po bs.length co) 1 0 nilS)[9]? = some (.slice (some ⟨fb, 0, none⟩) 1 1) by kernel_rfl); exact Salg.underlying115; rfl; simp only [Act.put, List.setIfInBounds_toArray, List.set_cons_zero, List.set_cons_succ])
  refine S_region (by kernel_rfl) ?_
  refine E_stage 0 12 [0, 1, 2, 3, 4, 5, 6, 7, 8, 9, 10, 11] (by kernel_rfl) M.drew ?_
  clear M
  simp only [List.filterMap_cons, List.filterMap_nil, List.getElem?_cons_zero, List.getElem?_cons_succ]
  ((with_reducible apply E_run); rfl; rfl; (intro w M; go_simp; (try go_ints); (try simp only [↓IntWalk.iteOmega]); (try with_reducible rfl)); simp only [Act.put, List.setIfInBounds_toArray, List.set_cons_zero, List.set_cons_succ])
  ((with_reducible apply E_run); rfl; rfl; (intro w M; go_simp; (try go_ints); (try simp only [↓IntWalk.iteOmega]); (try with_reducible rfl)); simp only [Act.put, List.setIfInBounds_toArray, List.set_cons_zero, List.set_cons_succ])
  ((with_reducible apply E_run); rfl; rfl; (intro w M; go_simp; (try go_ints); (try simp only [↓IntWalk.iteOmega]); (try with_reducible rfl)); simp only [Act.put, List.setIfInBounds_toArray, List.set_cons_zero, List.set_cons_succ])
  ((with_reducible apply E_run); rfl; rfl; (intro w M; exact run_loadCell (M.kept.row c1 (by simp)) rfl (show (chP E wz (.slice (some ⟨fb, 0, none⟩) 1 1) (Value.slice po bs.length co) 1 0 nilS)[9]? = some (.slice (some ⟨fb, 0, none⟩) 1 1) by kernel_rfl) Salg.underlying115 rfl); simp only [Act.put, List.setIfInBounds_toArray, List.set_cons_zero, List.set_cons_succ])
  ((with_reducible apply E_run); rfl; rfl; (intro w M; go_simp; (try go_ints); (try simp only [↓IntWalk.iteOmega]); (try with_reducible rfl)); simp only [Act.put, List.setIfInBounds_toArray, List.set_cons_zero, List.set_cons_succ])
  ((with_reducible apply E_run); rfl; rfl; (intro w M; go_simp; (try go_ints); (try simp only [↓IntWalk.iteOmega]); (try with_reducible rfl)); simp only [Act.put, List.setIfInBounds_toArray, List.set_cons_zero, List.set_cons_succ])
  ((with_reducible apply E_run); rfl; rfl; (intro w M; go_simp; (try go_ints); (try simp only [↓IntWalk.iteOmega]); (try with_reducible rfl)); simp only [Act.put, List.setIfInBounds_toArray, List.set_cons_zero, List.set_cons_succ])
  ((with_reducible apply E_run); rfl; rfl; (intro w M; exact run_loadCell (M.kept.row c1 (by simp)) rfl (show (chP E wz (.slice (some ⟨fb, 0, none⟩) 1 1) (Value.slice po bs.length co) 1 0 nilS)[9]? = some (.slice (some ⟨fb, 0, none⟩) 1 1) by kernel_rfl) Salg.underlying115 rfl); simp only [Act.put, List.setIfInBounds_toArray, List.set_cons_zero, List.set_cons_succ])
  ((with_reducible apply E_run); rfl; rfl; (intro w M; go_simp; (try go_ints); (try simp only [↓IntWalk.iteOmega]); (try with_reducible rfl)); simp only [Act.put, List.setIfInBounds_toArray, List.set_cons_zero, List.set_cons_succ])
  ((with_reducible apply E_run); rfl; rfl; (intro w M; go_simp; (try go_ints); (try simp only [↓IntWalk.iteOmega]); (try with_reducible rfl)); simp only [Act.put, List.setIfInBounds_toArray, List.set_cons_zero, List.set_cons_succ])
  ((with_reducible apply E_run); rfl; rfl; (intro w M; go_simp; (try go_ints); (try simp only [↓IntWalk.iteOmega]); (try with_reducible rfl)); simp only [Act.put, List.setIfInBounds_toArray, List.set_cons_zero, List.set_cons_succ])
  ((with_reducible apply E_run); rfl; rfl; (intro w M; go_simp; (try go_ints); (try simp only [↓IntWalk.iteOmega]); (try with_reducible rfl)); simp only [Act.put, List.setIfInBounds_toArray, List.set_cons_zero, List.set_cons_succ])
  refine E_nil ?_
  intro w9 K M
  clear K
  refine S_done ?_
  go_wp2_with ((with_reducible apply W_loadCell); rfl; exact M.kept.row hr (by simp); exact q4; exact Salg.underlying89; rfl; simp only [Act.put, List.setIfInBounds_toArray, List.set_cons_zero, List.set_cons_succ])
  refine (add_num gv1 gv2 G1 G2 _ (HG1.out.kept M.kept) (HGV2.out.kept M.kept) (by omega) (by omega)).mono ?_
  rintro e w10 ⟨gs, rfl, xHGS, K⟩
  have HGS := hid xHGS
  replace M := M.call K
  clear K xHGS
  have hrow := M.kept.row hr (by simp)
  have hgo := HGS.out.one
  go_wp2_with ((with_reducible apply W_stV (b := fb) (o := 0 + 4) (v := gs)); rfl; rfl; exact hgo; exact hrow; exact size89; exact z4; intro w11 K1 hr11)
  replace HWZ := hid ((HWZ.out.kept M.kept).keptC K1 hrow (by decide))
  replace HOU := hid ((HOU.out.kept M.kept).keptC K1 hrow HNB.out)
  replace HPV := hid ((HPV.out.kept M.kept).keptC K1 hrow HNB.out)
  replace HS1 := hid ((HS1.out.kept M.kept).keptC K1 hrow (by decide))
  replace HR7 := hid ((HR7.out.kept M.kept).keptC K1 hrow HNB.out)
  replace HK : Hid (Kept [c, fb] w w11) := HK.out.trans ((M.kept.mono (by simp)).trans (K1.mono (by simp)))
  replace HGS := hid (HGS.out.keptC K1 hrow HNB.out)
  replace c1 := K1.row (M.kept.row c1 (by simp)) hcf
  clear K1 M hrow hr HGV2 HG1
  have M := Mem.start w11 []
  have q7' : (fs.setIfInBounds (0 + 4) gs)[0 + 7]? = some r7 := (Array.getElem?_setIfInBounds_ne (by decide)).trans q7
  have q9' : (fs.setIfInBounds (0 + 4) gs)[0 + 9]? = some mv1 := (Array.getElem?_setIfInBounds_ne (by decide)).trans q9
  have q8' : (fs.setIfInBounds (0 + 4) gs)[0 + 8]? = some sv1 := (Array.getElem?_setIfInBounds_ne (by decide)).trans q8
  have q3' : (fs.setIfInBounds (0 + 4) gs)[0 + 3]? = some pv1 := (Array.getElem?_setIfInBounds_ne (by decide)).trans q3
  obtain ⟨stp, stn, stc, est⟩ := rowV_slice HS1.out
  have HNB2 : Hid (∀ t l, Obj.cells (fs.setIfInBounds (0 + 4) gs) 142 (0, 0) ≠ R8 t l) := not_bytes_at (tc := 142) (cs := fs.setIfInBounds (0 + 4) gs) (i := 0 + 8) (by rw [q8', est])
  clear est
  refine (num_int _ 1 rfl (by decide) _).mono ?_
  rintro e w12 ⟨fv, rfl, xHFV, K⟩
  have HFV := hid xHFV
  replace M := M.call K
  clear K xHFV
  go_wp2_with ((with_reducible apply W_loadCell); rfl; exact M.kept.row hr11 (by simp); exact q7'; exact Salg.underlying89; rfl; simp only [Act.put, List.setIfInBounds_toArray, List.set_cons_zero, List.set_cons_succ])
  refine (small_any r7 0 _ (HR7.out.kept M.kept) (by decide)).mono ?_
  rintro e w13 ⟨rfl, hw⟩
  replace hw := hw.symm
  subst hw
  go_wp2_with ((with_reducible apply W_min (m := 0) (n := bs.length) (k := 0)); rfl; rfl; (exact (Nat.zero_min _).symm); simp only [Act.put, List.setIfInBounds_toArray, List.set_cons_zero, List.set_cons_succ])
  go_wp2_with fail
  have hrow := M.kept.row hr11 (by simp)
  refine (answer_fresh fb 0 m1 0 1 (fs.setIfInBounds (0 + 4) gs) pv1 _ fv [] _ hrow q3' (HPV.out.kept M.kept) q8' (HS1.out.kept M.kept) HFV.out (by simp) (by simp) (by omega)).mono ?_
  rintro e w17 ⟨r17, v', pv', rfl, K1, hr17, x1, x2⟩
  have HSV := hid x1
  have HPN := hid x2.num
  replace HFV := hid (HFV.out.keptC K1 hrow HNB2.out)
  replace HGS := hid ((HGS.out.kept M.kept).keptC K1 hrow HNB2.out)
  replace HWZ := hid ((HWZ.out.kept M.kept).keptC K1 hrow (by decide))
  replace HOU := hid ((HOU.out.kept M.kept).keptC K1 hrow HNB2.out)
  replace HK : Hid (Kept [c, fb] w w17) := HK.out.trans ((M.kept.mono (by simp)).trans (K1.mono (by simp)))
  replace c1 := K1.row (M.kept.row c1 (by simp)) hcf
  clear K1 M hrow hr11 x1 x2
  go_wp2_with fail
  go_end0
  refine ⟨_, fs, rfl, ⟨wz, c1, HWZ.out⟩, ⟨_, pv', gs, v', [fv], hr17, by simp only [Array.size_setIfInBounds], fun k k3 k4 k8 k9 => by rw [Array.getElem?_setIfInBounds_ne (by omega), Array.getElem?_setIfInBounds_ne (by omega), Array.getElem?_setIfInBounds_ne (by omega)], Array.getElem?_setIfInBounds_self_of_lt (by simp; omega), HPN.out, by rw [Array.getElem?_setIfInBounds_ne (by omega), Array.getElem?_setIfInBounds_ne (by omega), Array.getElem?_setIfInBounds_self_of_lt z4], HGS.out, by rw [Array.getElem?_setIfInBounds_ne (by omega), Array.getElem?_setIfInBounds_self_of_lt (by simp; omega)], HSV.out, ?_, by rw [Array.getElem?_setIfInBounds_ne (by omega), Array.getElem?_setIfInBounds_ne (by omega), Array.getElem?_setIfInBounds_ne (by omega)]; exact q9⟩, fun k hk => HX2.out k (by omega) (by omega) (by omega) (by omega), HH0.out, HOU.out, HK.out⟩
  exact (show NumsV w17 [] [] from ⟨rfl, fun k v n e => by simp at e⟩).push HFV.out

set_option maxHeartbeats 4000000 in
set_option maxRecDepth 100000 in
theorem leaveY_in3 (c fb cap kd m1 G1 m2 G2 : Nat) (cur : Array Value) (ns2 : List Nat) (la : List (List Nat)) (E : XEnv) (rt pv1 gv1 sv1 r7 mv1 mv2 out : Value) (bs : List Nat) (w : World) (hC : ChY w c E (.slice (some ⟨fb, 0, none⟩) 3 cap) rt la) (hF : FrameQ w fb 120 cur m2 G2 ns2 mv2) (hkd : cur[120 + 0]? = some (.int .u8 (kd : Int))) (hcr : ∀ w, Calls Salg.prog 172 #[.int .u8 (kd : Int)] w fun e w' => e = .returned (.bool false) ∧ w' = w) (hone : ∀ k u, k < 60 → cur[120 + k]? = some u → u.oneCell' = true) (o4 : mv2.oneCell' = true) (hsz : cap * 60 ≤ cur.size) (hcap : 3 ≤ cap) (hcap2 : cap ≤ maxLen) (hout : NatV w out bs) (hP : PartsV w pv1 gv1 sv1 [] m1 G1 []) (p3 : cur[60 + 3]? = some pv1) (p4 : cur[60 + 4]? = some gv1) (p7 : cur[60 + 7]? = some r7) (p8 : cur[60 + 8]? = some sv1) (p9 : cur[60 + 9]? = some mv1) (h7' : NumV w r7 0) (hm : m1 ≤ 900) (hG1 : G1 < 256 ^ 100) (hG2 : G2 < 256 ^ 100) (hbl : bs.length ≤ 1000) :
    Calls Salg.prog 112 #[.pointer (some ⟨c, 0, none⟩), .int .u8 0, out] w fun e w' => ∃ (r : Value) (fs1 : Array Value), e = .returned r ∧ ChY w' c E (.slice (some ⟨fb, 0, none⟩) 2 2) out la ∧ FrameQ w' fb 60 fs1 (m1 + 1) (G1 + G2) [1] mv1 ∧ (∀ k, k < 120 → fs1[k]? = cur[k]?) ∧ fs1.size = cur.size ∧ NatV w' out bs ∧ Kept [c, fb] w w' := by
  have M := Mem.start w []
  obtain ⟨fs, pv2, gv2, sv2, xs2, hr, h0, h2, h3, h4, h5, h6, h7, h8, h9, ha⟩ := hF
  obtain ⟨wz, c1, c2⟩ := hC
  have hfc : fb ∉ [c] := row_ne c1 hr (by intro h; injection h with _ h _; exact absurd h (by decide))
  have hcf : c ∉ [fb] := row_ne hr c1 (by intro h; injection h with _ h _; exact absurd h (by decide))
  have hz : cap * 60 ≤ fs.size := by rw [h0]; exact hsz
  have hq : 120 + 60 ≤ fs.size := by omega
  have HFS := hid (ext_size (fs := fs) (q := 120) hq)
  have HF0 : Hid ((fs.extract 120 (120 + 60))[0]? = some (.int .u8 (kd : Int))) := by show _ = _; rw [ext_get hq (by decide), h2 (120 + 0) (by decide) (by decide) (by decide) (by decide)]; exact hkd
  have HF4 : Hid ((fs.extract 120 (120 + 60))[4]? = some gv2) := by show _ = _; rw [ext_get hq (by decide)]; exact h5
  have H1 : Hid (∀ u ∈ (fs.extract 120 (120 + 60)).toList, u.oneCell' = true) := ext_one hq (fun k u hk hu => by
    by_cases k3 : k = 3
    · subst k3; rw [h3] at hu; cases hu; exact h4.one
    by_cases k4 : k = 4
    · subst k4; rw [h5] at hu; cases hu; exact h6.one
    by_cases k8 : k = 8
    · subst k8; rw [h7] at hu; cases hu; exact h8.one
    by_cases k9 : k = 9
    · subst k9; rw [ha] at hu; cases hu; exact o4
    exact hone k u hk ((h2 (120 + k) (by omega) (by omega) (by omega) (by omega)).symm.trans hu))
  have HCR := hid hcr
  have HGV2 := hid h6
  have q3 : fs[60 + 3]? = some pv1 := (h2 (60 + 3) (by decide) (by decide) (by decide) (by decide)).trans p3
  have q4 : fs[60 + 4]? = some gv1 := (h2 (60 + 4) (by decide) (by decide) (by decide) (by decide)).trans p4
  have q7 : fs[60 + 7]? = some r7 := (h2 (60 + 7) (by decide) (by decide) (by decide) (by decide)).trans p7
  have q8 : fs[60 + 8]? = some sv1 := (h2 (60 + 8) (by decide) (by decide) (by decide) (by decide)).trans p8
  have q9 : fs[60 + 9]? = some mv1 := (h2 (60 + 9) (by decide) (by decide) (by decide) (by decide)).trans p9
  have HX2 : Hid (∀ k, k ≠ 120 + 3 → k ≠ 120 + 4 → k ≠ 120 + 8 → k ≠ 120 + 9 → fs[k]? = cur[k]?) := h2
  have HPV := hid hP.p
  have HG1 := hid hP.g
  have HS1 := hid hP.s
  have HR7 := hid h7'
  obtain ⟨stp, stn, stc, est⟩ := rowV_slice h8
  rw [est] at h7
  have HNB := hid (not_bytes_at (tc := 142) h7)
  replace c1 : w.heap[c]? = some (.cells (chP E wz (.slice (some ⟨fb, 0, none⟩) 3 cap) rt 1 0 nilS) 119 (0, 0)) := c1
  have HO := hid (chP_nb E wz (.slice (some ⟨fb, 0, none⟩) 3 cap) rt 1 0 nilS)
  have HWZ := hid c2
  have houo := hout.one
  have HOU := hid hout
  have hfl := lt_of_row hr
  have hcl := lt_of_row c1
  have z4 : 60 + 4 < fs.size := by omega
  have HK : Hid (Kept [c, fb] w w) := Kept.refl _ _
  obtain ⟨po, co, rfl⟩ : ∃ po co, out = (Value.slice po bs.length co) := by
    obtain ⟨p, c, e, h1, _⟩ := hout
    exact ⟨p, c, e⟩
  have HH0 := hid h0
  clear h2 h3 h4 h5 h6 h7 h8 h9 ha c2 hP h7' p3 p4 p7 p8 p9 h0 hone hout hcr hkd est
  go_enter Salg.func112, Salg.ntmps112
  go_wp2_with fail
  refine S_region (by kernel_rfl) ?_
  refine E_float 0 13 [0, 1, 2, 3, 4, 5, 6, 7, 8, 9, 10, 11] 12 6 _ (by kernel_rfl) ⟨⟨_, _, _, _, _, rfl, zero142, rfl⟩⟩ (by simp) M.drew ?_
  clear M
  simp only [List.filterMap_cons, List.filterMap_nil, List.getElem?_cons_zero, List.getElem?_cons_succ]
  ((with_reducible apply E_run); rfl; rfl; (intro w M; go_simp; (try go_ints); (try simp only [↓IntWalk.iteOmega]); (try with_reducible rfl)); simp only [Act.put, List.setIfInBounds_toArray, List.set_cons_zero, List.set_cons_succ])
  ((with_reducible apply E_run); rfl; rfl; (intro w M; go_simp; (try go_ints); (try simp only [↓IntWalk.iteOmega]); (try with_reducible rfl)); simp only [Act.put, List.setIfInBounds_toArray, List.set_cons_zero, List.set_cons_succ])
  ((with_reducible apply E_run); rfl; rfl; (intro w M; go_simp; (try go_ints); (try simp only [↓IntWalk.iteOmega]); (try with_reducible rfl)); simp only [Act.put, List.setIfInBounds_toArray, List.set_cons_zero, List.set_cons_succ])
  ((with_reducible apply E_run); rfl; rfl; (intro w M; exact run_loadCell (M.kept.row c1 (by simp)) rfl (show (chP E wz (.slice (some ⟨fb, 0, none⟩) 3 cap) rt 1 0 nilS)[9]? = some (.slice (some ⟨fb, 0, none⟩) 3 cap) by kernel_rfl) Salg.underlying115 rfl); simp only [Act.put, List.setIfInBounds_toArray, List.set_cons_zero, List.set_cons_succ])
  ((with_reducible apply E_run); rfl; rfl; (intro w M; go_simp; (try go_ints); (try simp only [↓IntWalk.iteOmega]); (try with_reducible rfl)); simp only [Act.put, List.setIfInBounds_toArray, List.set_cons_zero, List.set_cons_succ])
  ((with_reducible apply E_run); rfl; rfl; (intro w M; go_simp; (try go_ints); (try simp only [↓IntWalk.iteOmega]); (try with_reducible rfl)); simp only [Act.put, List.setIfInBounds_toArray, List.set_cons_zero, List.set_cons_succ])
  ((with_reducible apply E_run); rfl; rfl; (intro w M; go_simp; (try go_ints); (try simp only [↓IntWalk.iteOmega]); (try with_reducible rfl)); simp only [Act.put, List.setIfInBounds_toArray, List.set_cons_zero, List.set_cons_succ])
  ((with_reducible apply E_run); rfl; rfl; (intro w M; exact run_loadCell (M.kept.row c1 (by simp)) rfl (show (chP E wz (.slice (some ⟨fb, 0, none⟩) 3 cap) rt 1 0 nilS)[9]? = some (.slice (some ⟨fb, 0, none⟩) 3 cap) by kernel_rfl) Salg.underlying115 rfl); simp only [Act.put, List.setIfInBounds_toArray, List.set_cons_zero, List.set_cons_succ])
  ((with_reducible apply E_run); rfl; rfl; (intro w M; go_simp; (try go_ints); (try simp only [↓IntWalk.iteOmega]); (try with_reducible rfl)); simp only [Act.put, List.setIfInBounds_toArray, List.set_cons_zero, List.set_cons_succ])
  ((with_reducible apply E_run); rfl; rfl; (intro w M; go_simp; (try go_ints); (try simp only [↓IntWalk.iteOmega]); (try with_reducible rfl)); simp only [Act.put, List.setIfInBounds_toArray, List.set_cons_zero, List.set_cons_succ])
  ((with_reducible apply E_run); rfl; rfl; (intro w M; go_simp; (try go_ints); (try simp only [↓IntWalk.iteOmega]); (try with_reducible rfl)); simp only [Act.put, List.setIfInBounds_toArray, List.set_cons_zero, List.set_cons_succ])
  ((with_reducible apply E_run (v := .agg (fs.extract 120 (120 + 60)))); rfl; rfl; (intro w M; exact run_loadX (n := 60) (M.kept.row hr (by simp)) rfl Salg.underlying142 rfl size142 (by omega) rfl); simp only [Act.put, List.setIfInBounds_toArray, List.set_cons_zero, List.set_cons_succ])
  refine E_nil ?_
  intro w1 K1 M
  clear K1
  intro t6 w2 K1 ht6 M
  clear K1
  simp only [Act.put, List.setIfInBounds_toArray, List.set_cons_zero, List.set_cons_succ]
  refine S_seg 13 14 (by kernel_rfl) (by decide) ?_
  simp only [List.take_succ_cons, List.take_zero, List.drop_zero, List.drop_succ_cons, Nat.sub_zero, Nat.reduceSub]
  go_wp2_with ((with_reducible apply W_storeK (b := t6) (vs := (fs.extract 120 (120 + 60)))); rfl; rfl; exact M.r0; exact size142; exact HFS.out; exact H1.out; intro w3 K1 hr3; replace M := Mem.callPut (L1 := []) M (Or.inr ht6) K1 hr3; clear K1 hr3; simp only [List.nil_append] at M)
  refine S_done ?_
  go_wp2_with (first
    | ((with_reducible apply W_loadCell); rfl; exact M.r0; exact HF4.out; exact Salg.underlying89; rfl; simp only [Act.put, List.setIfInBounds_toArray, List.set_cons_zero, List.set_cons_succ])
    | ((with_reducible apply W_loadCell); rfl; exact M.r0; exact HF0.out; exact Salg.underlying5; rfl; simp only [Act.put, List.setIfInBounds_toArray, List.set_cons_zero, List.set_cons_succ]))
  refine (HCR.out _).mono ?_
  rintro e w4 ⟨rfl, hw⟩
  replace hw := hw.symm
  subst hw
  replace c1 := M.kept.row c1 (by simp)
  replace hr := M.kept.row hr (by simp)
  replace HWZ := hid (HWZ.out.kept M.kept)
  replace HGV2 := hid (HGV2.out.kept M.kept)
  replace HOU := hid (HOU.out.kept M.kept)
  replace HPV := hid (HPV.out.kept M.kept)
  replace HG1 := hid (HG1.out.kept M.kept)
  replace HS1 := hid (HS1.out.kept M.kept)
  replace HR7 := hid (HR7.out.kept M.kept)
  replace HK : Hid (Kept [c, fb] w w3) := M.kept.mono (by simp)
  clear M
  go_wp2_with ((with_reducible apply W_stV (b := c) (o := 10) (v := (Value.slice po bs.length co))); rfl; rfl; exact rfl; exact c1; exact size40; exact Nat.le_of_ble_eq_true (by kernel_rfl); intro w6 K1 hr1; rw [show (chP E wz (.slice (some ⟨fb, 0, none⟩) 3 cap) rt 1 0 nilS).setIfInBounds 10 ((Value.slice po bs.length co)) = (chP E wz (.slice (some ⟨fb, 0, none⟩) 3 cap) (Value.slice po bs.length co) 1 0 nilS) from by kernel_rfl] at hr1)
  replace HWZ := hid (HWZ.out.keptC K1 c1 (by decide))
  replace HGV2 := hid (HGV2.out.keptC K1 c1 HO.out)
  replace HOU := hid (HOU.out.keptC K1 c1 HO.out)
  replace HPV := hid (HPV.out.keptC K1 c1 HO.out)
  replace HG1 := hid (HG1.out.keptC K1 c1 HO.out)
  replace HS1 := hid (HS1.out.keptC K1 c1 (by decide))
  replace HR7 := hid (HR7.out.keptC K1 c1 HO.out)
  replace HK : Hid (Kept [c, fb] w w6) := HK.out.trans ((K1.mono (by simp)))
  replace hr := K1.row hr hfc
  replace HO := hid (chP_nb E wz (.slice (some ⟨fb, 0, none⟩) 3 cap) (Value.slice po bs.length co) 1 0 nilS)
  replace c1 := hr1
  clear K1 hr1
  have M := Mem.start w6 []
  refine S_region (by kernel_rfl) ?_
  refine E_stage 0 18 [0, 1, 2, 3, 4, 5, 6, 7, 8, 9, 10, 11, 12, 13, 14, 15, 16, 17] (by kernel_rfl) M.drew ?_
  clear M
  simp only [List.filterMap_cons, List.filterMap_nil, List.getElem?_cons_zero, List.getElem?_cons_succ]
  ((with_reducible apply E_run); rfl; rfl; (intro w M; go_simp; (try go_ints); (try simp only [↓IntWalk.iteOmega]); (try with_reducible rfl)); simp only [Act.put, List.setIfInBounds_toArray, List.set_cons_zero, List.set_cons_succ])
  ((with_reducible apply E_run); rfl; rfl; (intro w M; go_simp; (try go_ints); (try simp only [↓IntWalk.iteOmega]); (try with_reducible rfl)); simp only [Act.put, List.setIfInBounds_toArray, List.set_cons_zero, List.set_cons_succ])
  ((with_reducible apply E_run); rfl; rfl; (intro w M; go_simp; (try go_ints); (try simp only [↓IntWalk.iteOmega]); (try with_reducible rfl)); simp only [Act.put, List.setIfInBounds_toArray, List.set_cons_zero, List.set_cons_succ])
  ((with_reducible apply E_run); rfl; rfl; (intro w M; go_simp; (try go_ints); (try simp only [↓IntWalk.iteOmega]); (try with_reducible rfl)); simp only [Act.put, List.setIfInBounds_toArray, List.set_cons_zero, List.set_cons_succ])
  ((with_reducible apply E_run); rfl; rfl; (intro w M; exact run_loadCell (M.kept.row c1 (by simp)) rfl (show (chP E wz (.slice (some ⟨fb, 0, none⟩) 3 cap) (Value.slice po bs.length co) 1 0 nilS)[9]? = some (.slice (some ⟨fb, 0, none⟩) 3 cap) by kernel_rfl) Salg.underlying115 rfl); simp only [Act.put, List.setIfInBounds_toArray, List.set_cons_zero, List.set_cons_succ])
  ((with_reducible apply E_run); rfl; rfl; (intro w M; go_simp; (try go_ints); (try simp only [↓IntWalk.iteOmega]); (try with_reducible rfl)); simp only [Act.put, List.setIfInBounds_toArray, List.set_cons_zero, List.set_cons_succ])
  ((with_reducible apply E_run); rfl; rfl; (intro w M; go_simp; (try go_ints); (try simp only [↓IntWalk.iteOmega]); (try with_reducible rfl)); simp only [Act.put, List.setIfInBounds_toArray, List.set_cons_zero, List.set_cons_succ])
  ((with_reducible apply E_run); rfl; rfl; (intro w M; go_simp; (try go_ints); (try simp only [↓IntWalk.iteOmega]); (try with_reducible rfl)); simp only [Act.put, List.setIfInBounds_toArray, List.set_cons_zero, List.set_cons_succ])
  ((with_reducible apply E_run); rfl; rfl; (intro w M; exact run_loadCell (M.kept.row c1 (by simp)) rfl (show (chP E wz (.slice (some ⟨fb, 0, none⟩) 3 cap) (Value.slice po bs.length co) 1 0 nilS)[9]? = some (.slice (some ⟨fb, 0, none⟩) 3 cap) by kernel_rfl) Salg.underlying115 rfl); simp only [Act.put, List.setIfInBounds_toArray, List.set_cons_zero, List.set_cons_succ])
  ((with_reducible apply E_run); rfl; rfl; (intro w M; go_simp; (try go_ints); (try simp only [↓IntWalk.iteOmega]); (try with_reducible rfl)); simp only [Act.put, List.setIfInBounds_toArray, List.set_cons_zero, List.set_cons_succ])
  ((with_reducible apply E_run); rfl; rfl; (intro w M; go_simp; (try go_ints); (try simp only [↓IntWalk.iteOmega]); (try with_reducible rfl)); simp only [Act.put, List.setIfInBounds_toArray, List.set_cons_zero, List.set_cons_succ])
  ((with_reducible apply E_run); rfl; rfl; (intro w M; go_simp; (try go_ints); (try simp only [↓IntWalk.iteOmega]); (try with_reducible rfl)); simp only [Act.put, List.setIfInBounds_toArray, List.set_cons_zero, List.set_cons_succ])
  ((with_reducible apply E_run); rfl; rfl; (intro w M; go_simp; (try go_ints); (try simp only [↓IntWalk.iteOmega]); (try with_reducible rfl)); simp only [Act.put, List.setIfInBounds_toArray, List.set_cons_zero, List.set_cons_succ])
  ((with_reducible apply E_run); rfl; rfl; (intro w M; go_simp; (try go_ints); (try simp only [↓IntWalk.iteOmega]); (try with_reducible rfl)); simp only [Act.put, List.setIfInBounds_toArray, List.set_cons_zero, List.set_cons_succ])
  ((with_reducible apply E_run); rfl; rfl; (intro w M; exact run_loadCell (M.kept.row c1 (by simp)) rfl (show (chP E wz (.slice (some ⟨fb, 0, none⟩) 3 cap) (Value.slice po bs.length co) 1 0 nilS)[9]? = some (.slice (some ⟨fb, 0, none⟩) 3 cap) by kernel_rfl) Salg.underlying115 rfl); simp only [Act.put, List.setIfInBounds_toArray, List.set_cons_zero, List.set_cons_succ])
  ((with_reducible apply E_run); rfl; rfl; (intro w M; go_simp; (try go_ints); (try simp only [↓IntWalk.iteOmega]); (try with_reducible rfl)); simp only [Act.put, List.setIfInBounds_toArray, List.set_cons_zero, List.set_cons_succ])
  ((with_reducible apply E_run); rfl; rfl; (intro w M; go_simp; (try go_ints); (try simp only [↓IntWalk.iteOmega]); (try with_reducible rfl)); simp only [Act.put, List.setIfInBounds_toArray, List.set_cons_zero, List.set_cons_succ])
  ((with_reducible apply E_run); rfl; rfl; (intro w M; exact run_slice3 (n := 2) rfl rfl rfl (by omega) (by omega) Salg.underlying115 ⟨60, size142⟩ (by omega)); simp only [Act.put, List.setIfInBounds_toArray, List.set_cons_zero, List.set_cons_succ])
  refine E_nil ?_
  intro w7 K M
  clear K
  have c1' := M.kept.row c1 (by simp)
  refine S_seg 18 21 (by kernel_rfl) (by decide) ?_
  simp only [List.take_succ_cons, List.take_zero, List.drop_zero, List.drop_succ_cons, Nat.sub_zero, Nat.reduceSub]
  go_wp2_with ((with_reducible apply W_stV (b := c) (o := 9) (v := .slice (some ⟨fb, 0, none⟩) 2 2)); rfl; rfl; exact rfl; exact c1'; exact size115; exact Nat.le_of_ble_eq_true (by kernel_rfl); intro w8 K1 hr1; rw [show (chP E wz (.slice (some ⟨fb, 0, none⟩) 3 cap) (Value.slice po bs.length co) 1 0 nilS).setIfInBounds 9 (.slice (some ⟨fb, 0, none⟩) 2 2) = (chP E wz (.slice (some ⟨fb, 0, none⟩) 2 2) (Value.slice po bs.length co) 1 0 nilS) from by kernel_rfl] at hr1)
  replace HWZ := hid ((HWZ.out.kept M.kept).keptC K1 c1' (by decide))
  replace HGV2 := hid ((HGV2.out.kept M.kept).keptC K1 c1' HO.out)
  replace HOU := hid ((HOU.out.kept M.kept).keptC K1 c1' HO.out)
  replace HPV := hid ((HPV.out.kept M.kept).keptC K1 c1' HO.out)
  replace HG1 := hid ((HG1.out.kept M.kept).keptC K1 c1' HO.out)
  replace HS1 := hid ((HS1.out.kept M.kept).keptC K1 c1' (by decide))
  replace HR7 := hid ((HR7.out.kept M.kept).keptC K1 c1' HO.out)
  replace HK : Hid (Kept [c, fb] w w8) := HK.out.trans ((M.kept.mono (by simp)).trans (K1.mono (by simp)))
  replace hr := K1.row (M.kept.row hr (by simp)) hfc
  replace HO := hid (chP_nb E wz (.slice (some ⟨fb, 0, none⟩) 2 2) (Value.slice po bs.length co) 1 0 nilS)
  replace c1 := hr1
  clear K1 hr1 M c1'
  have M := Mem.start w8 []
  refine S_done ?_
  go_wp2_with ((with_reducible apply W_loadCell); rfl; exact M.kept.row c1 (by simp); exact (show (chP E wz (.slice (some ⟨fb, 0, none⟩) 2 2) (Value.slice po bs.length co) 1 0 nilS)[9]? = some (.slice (some ⟨fb, 0, none⟩) 2 2) by kernel_rfl); exact Salg.underlying115; rfl; simp only [Act.put, List.setIfInBounds_toArray, List.set_cons_zero, List.set_cons_succ])
  refine S_region (by kernel_rfl) ?_
  refine E_stage 0 12 [0, 1, 2, 3, 4, 5, 6, 7, 8, 9, 10, 11] (by kernel_rfl) M.drew ?_
  clear M
  simp only [List.filterMap_cons, List.filterMap_nil, List.getElem?_cons_zero, List.getElem?_cons_succ]
  ((with_reducible apply E_run); rfl; rfl; (intro w M; go_simp; (try go_ints); (try simp only [↓IntWalk.iteOmega]); (try with_reducible rfl)); simp only [Act.put, List.setIfInBounds_toArray, List.set_cons_zero, List.set_cons_succ])
  ((with_reducible apply E_run); rfl; rfl; (intro w M; go_simp; (try go_ints); (try simp only [↓IntWalk.iteOmega]); (try with_reducible rfl)); simp only [Act.put, List.setIfInBounds_toArray, List.set_cons_zero, List.set_cons_succ])
  ((with_reducible apply E_run); rfl; rfl; (intro w M; go_simp; (try go_ints); (try simp only [↓IntWalk.iteOmega]); (try with_reducible rfl)); simp only [Act.put, List.setIfInBounds_toArray, List.set_cons_zero, List.set_cons_succ])
  ((with_reducible apply E_run); rfl; rfl; (intro w M; exact run_loadCell (M.kept.row c1 (by simp)) rfl (show (chP E wz (.slice (some ⟨fb, 0, none⟩) 2 2) (Value.slice po bs.length co) 1 0 nilS)[9]? = some (.slice (some ⟨fb, 0, none⟩) 2 2) by kernel_rfl) Salg.underlying115 rfl); simp only [Act.put, List.setIfInBounds_toArray, List.set_cons_zero, List.set_cons_succ])
  ((with_reducible apply E_run); rfl; rfl; (intro w M; go_simp; (try go_ints); (try simp only [↓IntWalk.iteOmega]); (try with_reducible rfl)); simp only [Act.put, List.setIfInBounds_toArray, List.set_cons_zero, List.set_cons_succ])
  ((with_reducible apply E_run); rfl; rfl; (intro w M; go_simp; (try go_ints); (try simp only [↓IntWalk.iteOmega]); (try with_reducible rfl)); simp only [Act.put, List.setIfInBounds_toArray, List.set_cons_zero, List.set_cons_succ])
  ((with_reducible apply E_run); rfl; rfl; (intro w M; go_simp; (try go_ints); (try simp only [↓IntWalk.iteOmega]); (try with_reducible rfl)); simp only [Act.put, List.setIfInBounds_toArray, List.set_cons_zero, List.set_cons_succ])
  ((with_reducible apply E_run); rfl; rfl; (intro w M; exact run_loadCell (M.kept.row c1 (by simp)) rfl (show (chP E wz (.slice (some ⟨fb, 0, none⟩) 2 2) (Value.slice po bs.length co) 1 0 nilS)[9]? = some (.slice (some ⟨fb, 0, none⟩) 2 2) by kernel_rfl) Salg.underlying115 rfl); simp only [Act.put, List.setIfInBounds_toArray, List.set_cons_zero, List.set_cons_succ])
  ((with_reducible apply E_run); rfl; rfl; (intro w M; go_simp; (try go_ints); (try simp only [↓IntWalk.iteOmega]); (try with_reducible rfl)); simp only [Act.put, List.setIfInBounds_toArray, List.set_cons_zero, List.set_cons_succ])
  ((with_reducible apply E_run); rfl; rfl; (intro w M; go_simp; (try go_ints); (try simp only [↓IntWalk.iteOmega]); (try with_reducible rfl)); simp only [Act.put, List.setIfInBounds_toArray, List.set_cons_zero, List.set_cons_succ])
  ((with_reducible apply E_run); rfl; rfl; (intro w M; go_simp; (try go_ints); (try simp only [↓IntWalk.iteOmega]); (try with_reducible rfl)); simp only [Act.put, List.setIfInBounds_toArray, List.set_cons_zero, List.set_cons_succ])
  ((with_reducible apply E_run); rfl; rfl; (intro w M; go_simp; (try go_ints); (try simp only [↓IntWalk.iteOmega]); (try with_reducible rfl)); simp only [Act.put, List.setIfInBounds_toArray, List.set_cons_zero, List.set_cons_succ])
  refine E_nil ?_
  intro w9 K M
  clear K
  refine S_done ?_
  go_wp2_with ((with_reducible apply W_loadCell); rfl; exact M.kept.row hr (by simp); exact q4; exact Salg.underlying89; rfl; simp only [Act.put, List.setIfInBounds_toArray, List.set_cons_zero, List.set_cons_succ])
  refine (add_num gv1 gv2 G1 G2 _ (HG1.out.kept M.kept) (HGV2.out.kept M.kept) (by omega) (by omega)).mono ?_
  rintro e w10 ⟨gs, rfl, xHGS, K⟩
  have HGS := hid xHGS
  replace M := M.call K
  clear K xHGS
  have hrow := M.kept.row hr (by simp)
  have hgo := HGS.out.one
  go_wp2_with ((with_reducible apply W_stV (b := fb) (o := 60 + 4) (v := gs)); rfl; rfl; exact hgo; exact hrow; exact size89; exact z4; intro w11 K1 hr11)
  replace HWZ := hid ((HWZ.out.kept M.kept).keptC K1 hrow (by decide))
  replace HOU := hid ((HOU.out.kept M.kept).keptC K1 hrow HNB.out)
  replace HPV := hid ((HPV.out.kept M.kept).keptC K1 hrow HNB.out)
  replace HS1 := hid ((HS1.out.kept M.kept).keptC K1 hrow (by decide))
  replace HR7 := hid ((HR7.out.kept M.kept).keptC K1 hrow HNB.out)
  replace HK : Hid (Kept [c, fb] w w11) := HK.out.trans ((M.kept.mono (by simp)).trans (K1.mono (by simp)))
  replace HGS := hid (HGS.out.keptC K1 hrow HNB.out)
  replace c1 := K1.row (M.kept.row c1 (by simp)) hcf
  clear K1 M hrow hr HGV2 HG1
  have M := Mem.start w11 []
  have q7' : (fs.setIfInBounds (60 + 4) gs)[60 + 7]? = some r7 := (Array.getElem?_setIfInBounds_ne (by decide)).trans q7
  have q9' : (fs.setIfInBounds (60 + 4) gs)[60 + 9]? = some mv1 := (Array.getElem?_setIfInBounds_ne (by decide)).trans q9
  have q8' : (fs.setIfInBounds (60 + 4) gs)[60 + 8]? = some sv1 := (Array.getElem?_setIfInBounds_ne (by decide)).trans q8
  have q3' : (fs.setIfInBounds (60 + 4) gs)[60 + 3]? = some pv1 := (Array.getElem?_setIfInBounds_ne (by decide)).trans q3
  obtain ⟨stp, stn, stc, est⟩ := rowV_slice HS1.out
  have HNB2 : Hid (∀ t l, Obj.cells (fs.setIfInBounds (60 + 4) gs) 142 (0, 0) ≠ R8 t l) := not_bytes_at (tc := 142) (cs := fs.setIfInBounds (60 + 4) gs) (i := 60 + 8) (by rw [q8', est])
  clear est
  refine (num_int _ 1 rfl (by decide) _).mono ?_
  rintro e w12 ⟨fv, rfl, xHFV, K⟩
  have HFV := hid xHFV
  replace M := M.call K
  clear K xHFV
  go_wp2_with ((with_reducible apply W_loadCell); rfl; exact M.kept.row hr11 (by simp); exact q7'; exact Salg.underlying89; rfl; simp only [Act.put, List.setIfInBounds_toArray, List.set_cons_zero, List.set_cons_succ])
  refine (small_any r7 0 _ (HR7.out.kept M.kept) (by decide)).mono ?_
  rintro e w13 ⟨rfl, hw⟩
  replace hw := hw.symm
  subst hw
  go_wp2_with ((with_reducible apply W_min (m := 0) (n := bs.length) (k := 0)); rfl; rfl; (exact (Nat.zero_min _).symm); simp only [Act.put, List.setIfInBounds_toArray, List.set_cons_zero, List.set_cons_succ])
  go_wp2_with fail
  have hrow := M.kept.row hr11 (by simp)
  refine (answer_fresh fb 60 m1 0 1 (fs.setIfInBounds (60 + 4) gs) pv1 _ fv [] _ hrow q3' (HPV.out.kept M.kept) q8' (HS1.out.kept M.kept) HFV.out (by simp) (by simp) (by omega)).mono ?_
  rintro e w17 ⟨r17, v', pv', rfl, K1, hr17, x1, x2⟩
  have HSV := hid x1
  have HPN := hid x2.num
  replace HFV := hid (HFV.out.keptC K1 hrow HNB2.out)
  replace HGS := hid ((HGS.out.kept M.kept).keptC K1 hrow HNB2.out)
  replace HWZ := hid ((HWZ.out.kept M.kept).keptC K1 hrow (by decide))
  replace HOU := hid ((HOU.out.kept M.kept).keptC K1 hrow HNB2.out)
  replace HK : Hid (Kept [c, fb] w w17) := HK.out.trans ((M.kept.mono (by simp)).trans (K1.mono (by simp)))
  replace c1 := K1.row (M.kept.row c1 (by simp)) hcf
  clear K1 M hrow hr11 x1 x2
  go_wp2_with fail
  go_end0
  refine ⟨_, fs, rfl, ⟨wz, c1, HWZ.out⟩, ⟨_, pv', gs, v', [fv], hr17, by simp only [Array.size_setIfInBounds], fun k k3 k4 k8 k9 => by rw [Array.getElem?_setIfInBounds_ne (by omega), Array.getElem?_setIfInBounds_ne (by omega), Array.getElem?_setIfInBounds_ne (by omega)], Array.getElem?_setIfInBounds_self_of_lt (by simp; omega), HPN.out, by rw [Array.getElem?_setIfInBounds_ne (by omega), Array.getElem?_setIfInBounds_ne (by omega), Array.getElem?_setIfInBounds_self_of_lt z4], HGS.out, by rw [Array.getElem?_setIfInBounds_ne (by omega), Array.getElem?_setIfInBounds_self_of_lt (by simp; omega)], HSV.out, ?_, by rw [Array.getElem?_setIfInBounds_ne (by omega), Array.getElem?_setIfInBounds_ne (by omega), Array.getElem?_setIfInBounds_ne (by omega)]; exact q9⟩, fun k hk => HX2.out k (by omega) (by omega) (by omega) (by omega), HH0.out, HOU.out, HK.out⟩
  exact (show NumsV w17 [] [] from ⟨rfl, fun k v n e => by simp at e⟩).push HFV.out
end Go.Proofs.YgcsalGreat

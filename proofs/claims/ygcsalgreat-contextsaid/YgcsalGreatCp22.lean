/-
  The walk of (*yp.State).leave: a callee that ends well and whose output goes to its caller's memory.
-/
import Derived.Test.YgcsalGreatCp21
set_option linter.unusedSimpArgs false
set_option linter.unusedVariables false
namespace Go.Proofs.YgcsalGreat
open Go.RowKit Go.Own

set_option maxHeartbeats 4000000 in
set_option maxRecDepth 100000 in
theorem leaveX_in_none (c fb cap m1 G1 m2 G2 ON OA mb L k : Nat) (cur : Array Value) (ns2 : List Nat) (la : List (List Nat)) (E : CEnv) (rt pv1 gv1 sv1 r6 r7 sg vn cw iu a0 a1 a2 a3 mv2 out : Value) (mem bs : List Nat) (w : World) (hC : ChX w c E (.slice (some ⟨fb, 0, none⟩) 2 cap) rt la) (hF : FrameQ w fb 60 cur m2 G2 ns2 mv2) (hcur : ∀ k, k < 60 → cur[60 + k]? = (frX sg vn cw iu (wrow4 a0 a1 a2 a3))[k]?) (hone : ∀ u ∈ (frX sg vn cw iu (wrow4 a0 a1 a2 a3)), u.oneCell' = true) (hP : PartsV w pv1 gv1 sv1 [] m1 G1 []) (hoff : LieOff [mb] pv1) (p3 : cur[3]? = some pv1) (p4 : cur[4]? = some gv1) (p6 : cur[6]? = some r6) (p7 : cur[7]? = some r7) (p8 : cur[8]? = some sv1) (p9 : cur[9]? = some (.slice (some ⟨mb, 0, none⟩) L L)) (h6' : NumV w r6 OA) (h7' : NumV w r7 ON) (hmb : w.heap[mb]? = some (R8 5 mem)) (hL : mem.length = L) (hLL : L ≤ 10000) (hout : NatV w out bs) (hsz : cur.size = cap * 60) (hcap : 2 ≤ cap) (hcap2 : cap ≤ maxLen) (hm : m1 ≤ 900) (hG1 : G1 < 256 ^ 100) (hG2 : G2 < 256 ^ 100) (o4 : mv2.oneCell' = true) (hON : ON ≤ 1000) (hbl : bs.length ≤ 1000) (hk : min ON bs.length = 0) :
    Calls Salg.prog 112 #[.pointer (some ⟨c, 0, none⟩), .int .u8 0, out] w fun e w' => ∃ (r : Value) (fs1 : Array Value), e = .returned r ∧ ChX w' c E (.slice (some ⟨fb, 0, none⟩) 1 1) out la ∧ FrameM [mb] 1 w' fb 0 fs1 (m1 + 1) (G1 + G2) [1] (.slice (some ⟨mb, 0, none⟩) L L) ∧ (∀ k, k < 60 → fs1[k]? = cur[k]?) ∧ fs1.size = cur.size ∧ w'.heap[mb]? = some (R8 5 (mem)) ∧ NatV w' out bs ∧ Kept [c, fb, mb] w w' := by
  have M := Mem.start w []
  obtain ⟨fs, pv2, gv2, sv2, xs2, hr, h0, h2, h3, h4, h5, h6, h7, h8, h9, ha⟩ := hF
  obtain ⟨wz, c1, c2⟩ := hC
  obtain ⟨vz, lim, gv0, pr, tv, nv, bv, cu, nvb, bvb, cu2, nv3, bv3⟩ := E
  simp only at c1
  have hfc : fb ∉ [c] := row_ne c1 hr (by intro h; injection h with _ h _; exact absurd h (by decide))
  have hcf : c ∉ [fb] := row_ne hr c1 (by intro h; injection h with _ h _; exact absurd h (by decide))
  have hmc : mb ∉ [c] := row_ne c1 hmb (fun e => chM_nb _ _ _ _ _ _ _ _ _ _ _ _ _ _ _ e.symm)
  have hz : fs.size = cap * 60 := h0.trans hsz
  have HX : Hid (fs.extract 60 (60 + 60) = (frS (frX sg vn cw iu (wrow4 a0 a1 a2 a3)) pv2 gv2 sv2 mv2).toArray) := frame_ext (by kernel_rfl) (by omega) (frS_get (f := fun k => fs[60 + k]?) (by kernel_rfl) (fun k k1 k3 k4 k8 k9 => (h2 (60 + k) (by omega) (by omega) (by omega) (by omega)).trans (hcur k k1)) h3 h5 h7 ha)
  have H1 := hid (frS_one hone h4.one h6.one h8.one o4)
  have q3 : fs[0 + 3]? = some pv1 := (h2 3 (by decide) (by decide) (by decide) (by decide)).trans p3
  have q4 : fs[0 + 4]? = some gv1 := (h2 4 (by decide) (by decide) (by decide) (by decide)).trans p4
  have q6 : fs[0 + 6]? = some r6 := (h2 6 (by decide) (by decide) (by decide) (by decide)).trans p6
  have q7 : fs[0 + 7]? = some r7 := (h2 7 (by decide) (by decide) (by decide) (by decide)).trans p7
  have q8 : fs[0 + 8]? = some sv1 := (h2 8 (by decide) (by decide) (by decide) (by decide)).trans p8
  have q9 : fs[0 + 9]? = some (.slice (some ⟨mb, 0, none⟩) L L) := (h2 9 (by decide) (by decide) (by decide) (by decide)).trans p9
  have HX2 : Hid (∀ k, k ≠ 60 + 3 → k ≠ 60 + 4 → k ≠ 60 + 8 → k ≠ 60 + 9 → fs[k]? = cur[k]?) := h2
  have HNB := hid (not_bytes_at (tc := 142) q9)
  have hmf : mb ∉ [fb] := row_ne hr hmb (fun e => HNB.out _ _ e.symm)
  have hmw := lt_of_row hmb
  replace c1 : w.heap[c]? = some (.cells (chM vz wz nilS nilS (.slice (some ⟨fb, 0, none⟩) 2 cap) rt 1 0 lim gv0 nilS pr tv) 119 (0, 0)) := c1
  have HO := hid (chM_nb vz wz nilS nilS (.slice (some ⟨fb, 0, none⟩) 2 cap) rt 1 0 lim gv0 nilS pr tv)
  have HWZ := hid c2
  have HPV := hid (hP.p.offS hoff)
  have HG1 := hid hP.g
  have HS1 := hid hP.s
  have HR6 := hid h6'
  have HR7 := hid h7'
  have HG2 := hid h6
  have HMB := hid hmb
  have houo := hout.one
  have HOU := hid hout
  have hfl := lt_of_row hr
  have hcl := lt_of_row c1
  have z4 : 4 < fs.size := by omega
  have HK : Hid (Kept [c, fb, mb] w w) := Kept.refl _ _
  obtain ⟨po, co, rfl, hco⟩ : ∃ po co, out = (Value.slice po bs.length co) ∧ bs.length ≤ co := by
    obtain ⟨p, c, e, h1, _⟩ := hout
    exact ⟨p, c, e, h1⟩
  have HKK := hid hk
  clear h2 h3 h4 h5 h6 h7 h8 h9 ha c2 hP h6' h7' hcur h0 hone hmb hout hk
  go_enter Salg.func112, Salg.ntmps112
  go_wp2_with fail
  refine S_region (by kernel_rfl) ?_
  refine E_float 0 13 [0, 1, 2, 3, 4, 5, 6, 7, 8, 9, 10, 11] 12 6 _ (by kernel_rfl) ⟨⟨_, _, _, _, _, rfl, zero142, rfl⟩⟩ (by simp) M.drew ?_
  clear M
  simp only [List.filterMap_cons, List.filterMap_nil, List.getElem?_cons_zero, List.getElem?_cons_succ]
  ((with_reducible apply E_run); rfl; rfl; (intro w M; go_simp; (try go_ints); (try simp only [↓IntWalk.iteOmega]); (try with_reducible rfl)); simp only [Act.put, List.setIfInBounds_toArray, List.set_cons_zero, List.set_cons_succ])
  ((with_reducible apply E_run); rfl; rfl; (intro w M; go_simp; (try go_ints); (try simp only [↓IntWalk.iteOmega]); (try with_reducible rfl)); simp only [Act.put, List.setIfInBounds_toArray, List.set_cons_zero, List.set_cons_succ])
  ((with_reducible apply E_run); rfl; rfl; (intro w M; go_simp; (try go_ints); (try simp only [↓IntWalk.iteOmega]); (try with_reducible rfl)); simp only [Act.put, List.setIfInBounds_toArray, List.set_cons_zero, List.set_cons_succ])
  ((with_reducible apply E_run); rfl; rfl; (intro w M; exact run_loadCell (M.kept.row c1 (by simp)) rfl (show (chM vz wz nilS nilS (.slice (some ⟨fb, 0, none⟩) 2 cap) rt 1 0 lim gv0 nilS pr tv)[9]? = some (.slice (some ⟨fb, 0, none⟩) 2 cap) by kernel_rfl) Salg.underlying115 rfl); simp only [Act.put, List.setIfInBounds_toArray, List.set_cons_zero, List.set_cons_succ])
  ((with_reducible apply E_run); rfl; rfl; (intro w M; go_simp; (try go_ints); (try simp only [↓IntWalk.iteOmega]); (try with_reducible rfl)); simp only [Act.put, List.setIfInBounds_toArray, List.set_cons_zero, List.set_cons_succ])
  ((with_reducible apply E_run); rfl; rfl; (intro w M; go_simp; (try go_ints); (try simp only [↓IntWalk.iteOmega]); (try with_reducible rfl)); simp only [Act.put, List.setIfInBounds_toArray, List.set_cons_zero, List.set_cons_succ])
  ((with_reducible apply E_run); rfl; rfl; (intro w M; go_simp; (try go_ints); (try simp only [↓IntWalk.iteOmega]); (try with_reducible rfl)); simp only [Act.put, List.setIfInBounds_toArray, List.set_cons_zero, List.set_cons_succ])
  ((with_reducible apply E_run); rfl; rfl; (intro w M; exact run_loadCell (M.kept.row c1 (by simp)) rfl (show (chM vz wz nilS nilS (.slice (some ⟨fb, 0, none⟩) 2 cap) rt 1 0 lim gv0 nilS pr tv)[9]? = some (.slice (some ⟨fb, 0, none⟩) 2 cap) by kernel_rfl) Salg.underlying115 rfl); simp only [Act.put, List.setIfInBounds_toArray, List.set_cons_zero, List.set_cons_succ])
  ((with_reducible apply E_run); rfl; rfl; (intro w M; go_simp; (try go_ints); (try simp only [↓IntWalk.iteOmega]); (try with_reducible rfl)); simp only [Act.put, List.setIfInBounds_toArray, List.set_cons_zero, List.set_cons_succ])
  ((with_reducible apply E_run); rfl; rfl; (intro w M; go_simp; (try go_ints); (try simp only [↓IntWalk.iteOmega]); (try with_reducible rfl)); simp only [Act.put, List.setIfInBounds_toArray, List.set_cons_zero, List.set_cons_succ])
  ((with_reducible apply E_run); rfl; rfl; (intro w M; go_simp; (try go_ints); (try simp only [↓IntWalk.iteOmega]); (try with_reducible rfl)); simp only [Act.put, List.setIfInBounds_toArray, List.set_cons_zero, List.set_cons_succ])
  ((with_reducible apply E_run (v := .agg (frS (frX sg vn cw iu (wrow4 a0 a1 a2 a3)) pv2 gv2 sv2 mv2).toArray)); rfl; rfl; (intro w M; exact run_loadX (n := 60) (M.kept.row hr (by simp)) rfl Salg.underlying142 rfl size142 (by omega) HX.out); simp only [Act.put, List.setIfInBounds_toArray, List.set_cons_zero, List.set_cons_succ])
  refine E_nil ?_
  intro w1 K1 M
  clear K1
  intro t6 w2 K1 ht6 M
  clear K1
  simp only [Act.put, List.setIfInBounds_toArray, List.set_cons_zero, List.set_cons_succ]
  refine S_seg 13 14 (by kernel_rfl) (by decide) ?_
  simp only [List.take_succ_cons, List.take_zero, List.drop_zero, List.drop_succ_cons, Nat.sub_zero, Nat.reduceSub]
  go_wp2_with ((with_reducible apply W_storeK (b := t6) (vs := (frS (frX sg vn cw iu (wrow4 a0 a1 a2 a3)) pv2 gv2 sv2 mv2).toArray)); rfl; rfl; exact M.r0; exact size142; rfl; exact H1.out; intro w3 K1 hr3; replace M := Mem.callPut (L1 := []) M (Or.inr ht6) K1 hr3; clear K1 hr3; simp only [List.nil_append] at M)
  refine S_done ?_
  go_wp2_with (first
    | ((with_reducible apply W_loadCell); rfl; exact M.r0; exact (show (frS (frX sg vn cw iu (wrow4 a0 a1 a2 a3)) pv2 gv2 sv2 mv2).toArray[4]? = some gv2 by kernel_rfl); exact Salg.underlying89; rfl; simp only [Act.put, List.setIfInBounds_toArray, List.set_cons_zero, List.set_cons_succ])
    | ((with_reducible apply W_loadCell); rfl; exact M.r0; exact (show (frS (frX sg vn cw iu (wrow4 a0 a1 a2 a3)) pv2 gv2 sv2 mv2).toArray[0]? = some (.int .u8 2) by kernel_rfl); exact Salg.underlying5; rfl; simp only [Act.put, List.setIfInBounds_toArray, List.set_cons_zero, List.set_cons_succ]))
  refine (creates_two _).mono ?_
  rintro e w4 ⟨rfl, hw⟩
  replace hw := hw.symm
  subst hw
  replace c1 := M.kept.row c1 (by simp)
  replace hr := M.kept.row hr (by simp)
  replace HMB := hid (M.kept.row HMB.out (by simp))
  replace HWZ := hid (HWZ.out.kept M.kept)
  replace HPV := hid (HPV.out.kept M.kept)
  replace HG1 := hid (HG1.out.kept M.kept)
  replace HS1 := hid (HS1.out.kept M.kept)
  replace HR6 := hid (HR6.out.kept M.kept)
  replace HR7 := hid (HR7.out.kept M.kept)
  replace HG2 := hid (HG2.out.kept M.kept)
  replace HOU := hid (HOU.out.kept M.kept)
  replace HK : Hid (Kept [c, fb, mb] w w3) := M.kept.mono (by simp)
  clear M
  go_wp2_with ((with_reducible apply W_stV (b := c) (o := 10) (v := (Value.slice po bs.length co))); rfl; rfl; exact rfl; exact c1; exact size40; exact Nat.le_of_ble_eq_true (by kernel_rfl); intro w6 K1 hr1; rw [show (chM vz wz nilS nilS (.slice (some ⟨fb, 0, none⟩) 2 cap) rt 1 0 lim gv0 nilS pr tv).setIfInBounds 10 ((Value.slice po bs.length co)) = (chM vz wz nilS nilS (.slice (some ⟨fb, 0, none⟩) 2 cap) (Value.slice po bs.length co) 1 0 lim gv0 nilS pr tv) from by kernel_rfl] at hr1)
  replace HWZ := hid (HWZ.out.keptC K1 c1 (by decide))
  replace HPV := hid (HPV.out.keptC K1 c1 HO.out)
  replace HG1 := hid (HG1.out.keptC K1 c1 HO.out)
  replace HS1 := hid (HS1.out.keptC K1 c1 (by decide))
  replace HR6 := hid (HR6.out.keptC K1 c1 HO.out)
  replace HR7 := hid (HR7.out.keptC K1 c1 HO.out)
  replace HG2 := hid (HG2.out.keptC K1 c1 HO.out)
  replace HMB := hid (K1.row HMB.out hmc)
  replace HOU := hid (HOU.out.keptC K1 c1 HO.out)
  replace HK : Hid (Kept [c, fb, mb] w w6) := HK.out.trans ((K1.mono (by simp)))
  replace hr := K1.row hr hfc
  replace HO := hid (chM_nb vz wz nilS nilS (.slice (some ⟨fb, 0, none⟩) 2 cap) (Value.slice po bs.length co) 1 0 lim gv0 nilS pr tv)
  replace c1 := hr1
  clear K1 hr1
  have M := Mem.start w6 []
  refine S_region (by kernel_rfl) ?_
  refine E_stage 0 18 [0, 1, 2, 3, 4, 5, 6, 7, 8, 9, 10, 11, 12, 13, 14, 15, 16, 17] (by kernel_rfl) M.drew ?_
  clear M
  simp only [List.filterMap_cons, List.filterMap_nil, List.getElem?_cons_zero, List.getElem?_cons_succ]
  ((with_reducible apply E_run); rfl; rfl; (intro w M; go_simp; (try go_ints); (try simp only [↓IntWalk.iteOmega]); (try with_reducible rfl)); simp only [Act.put, List.setIfInBounds_toArray, List.set_cons_zero, List.set_cons_succ])
  ((with_reducible apply E_run); rfl; rfl; (intro w M; go_simp; (try go_ints); (try simp only [↓IntWalk.iteOmega]); (try with_reducible rfl)); simp only [Act.put, List.setIfInBounds_toArray, List.set_cons_zero, List.set_cons_succ])
  ((with_reducible apply E_run); rfl; rfl; (intro w M; go_simp; (try go_ints); (try simp only [↓IntWalk.iteOmega]); (try with_reducible rfl)); simp only [Act.put, List.setIfInBounds_toArray, List.set_cons_zero, List.set_cons_succ])
  ((with_reducible apply E_run); rfl; rfl; (intro w M; go_simp; (try go_ints); (try simp only [↓IntWalk.iteOmega]); (try with_reducible rfl)); simp only [Act.put, List.setIfInBounds_toArray, List.set_cons_zero, List.set_cons_succ])
  ((with_reducible apply E_run); rfl; rfl; (intro w M; exact run_loadCell (M.kept.row c1 (by simp)) rfl (show (chM vz wz nilS nilS (.slice (some ⟨fb, 0, none⟩) 2 cap) (Value.slice po bs.length co) 1 0 lim gv0 nilS pr tv)[9]? = some (.slice (some ⟨fb, 0, none⟩) 2 cap) by kernel_rfl) Salg.underlying115 rfl); simp only [Act.put, List.setIfInBounds_toArray, List.set_cons_zero, List.set_cons_succ])
  ((with_reducible apply E_run); rfl; rfl; (intro w M; go_simp; (try go_ints); (try simp only [↓IntWalk.iteOmega]); (try with_reducible rfl)); simp only [Act.put, List.setIfInBounds_toArray, List.set_cons_zero, List.set_cons_succ])
  ((with_reducible apply E_run); rfl; rfl; (intro w M; go_simp; (try go_ints); (try simp only [↓IntWalk.iteOmega]); (try with_reducible rfl)); simp only [Act.put, List.setIfInBounds_toArray, List.set_cons_zero, List.set_cons_succ])
  ((with_reducible apply E_run); rfl; rfl; (intro w M; go_simp; (try go_ints); (try simp only [↓IntWalk.iteOmega]); (try with_reducible rfl)); simp only [Act.put, List.setIfInBounds_toArray, List.set_cons_zero, List.set_cons_succ])
  ((with_reducible apply E_run); rfl; rfl; (intro w M; exact run_loadCell (M.kept.row c1 (by simp)) rfl (show (chM vz wz nilS nilS (.slice (some ⟨fb, 0, none⟩) 2 cap) (Value.slice po bs.length co) 1 0 lim gv0 nilS pr tv)[9]? = some (.slice (some ⟨fb, 0, none⟩) 2 cap) by kernel_rfl) Salg.underlying115 rfl); simp only [Act.put, List.setIfInBounds_toArray, List.set_cons_zero, List.set_cons_succ])
  ((with_reducible apply E_run); rfl; rfl; (intro w M; go_simp; (try go_ints); (try simp only [↓IntWalk.iteOmega]); (try with_reducible rfl)); simp only [Act.put, List.setIfInBounds_toArray, List.set_cons_zero, List.set_cons_succ])
  ((with_reducible apply E_run); rfl; rfl; (intro w M; go_simp; (try go_ints); (try simp only [↓IntWalk.iteOmega]); (try with_reducible rfl)); simp only [Act.put, List.setIfInBounds_toArray, List.set_cons_zero, List.set_cons_succ])
  ((with_reducible apply E_run); rfl; rfl; (intro w M; go_simp; (try go_ints); (try simp only [↓IntWalk.iteOmega]); (try with_reducible rfl)); simp only [Act.put, List.setIfInBounds_toArray, List.set_cons_zero, List.set_cons_succ])
  ((with_reducible apply E_run); rfl; rfl; (intro w M; go_simp; (try go_ints); (try simp only [↓IntWalk.iteOmega]); (try with_reducible rfl)); simp only [Act.put, List.setIfInBounds_toArray, List.set_cons_zero, List.set_cons_succ])
  ((with_reducible apply E_run); rfl; rfl; (intro w M; go_simp; (try go_ints); (try simp only [↓IntWalk.iteOmega]); (try with_reducible rfl)); simp only [Act.put, List.setIfInBounds_toArray, List.set_cons_zero, List.set_cons_succ])
  ((with_reducible apply E_run); rfl; rfl; (intro w M; exact run_loadCell (M.kept.row c1 (by simp)) rfl (show (chM vz wz nilS nilS (.slice (some ⟨fb, 0, none⟩) 2 cap) (Value.slice po bs.length co) 1 0 lim gv0 nilS pr tv)[9]? = some (.slice (some ⟨fb, 0, none⟩) 2 cap) by kernel_rfl) Salg.underlying115 rfl); simp only [Act.put, List.setIfInBounds_toArray, List.set_cons_zero, List.set_cons_succ])
  ((with_reducible apply E_run); rfl; rfl; (intro w M; go_simp; (try go_ints); (try simp only [↓IntWalk.iteOmega]); (try with_reducible rfl)); simp only [Act.put, List.setIfInBounds_toArray, List.set_cons_zero, List.set_cons_succ])
  ((with_reducible apply E_run); rfl; rfl; (intro w M; go_simp; (try go_ints); (try simp only [↓IntWalk.iteOmega]); (try with_reducible rfl)); simp only [Act.put, List.setIfInBounds_toArray, List.set_cons_zero, List.set_cons_succ])
  ((with_reducible apply E_run); rfl; rfl; (intro w M; exact run_slice3 (n := 1) rfl rfl rfl (by omega) (by omega) Salg.underlying115 ⟨60, size142⟩ (by omega)); simp only [Act.put, List.setIfInBounds_toArray, List.set_cons_zero, List.set_cons_succ])
  refine E_nil ?_
  intro w7 K M
  clear K
  have c1' := M.kept.row c1 (by simp)
  refine S_seg 18 21 (by kernel_rfl) (by decide) ?_
  simp only [List.take_succ_cons, List.take_zero, List.drop_zero, List.drop_succ_cons, Nat.sub_zero, Nat.reduceSub]
  go_wp2_with ((with_reducible apply W_stV (b := c) (o := 9) (v := .slice (some ⟨fb, 0, none⟩) 1 1)); rfl; rfl; exact rfl; exact c1'; exact size115; exact Nat.le_of_ble_eq_true (by kernel_rfl); intro w8 K1 hr1; rw [show (chM vz wz nilS nilS (.slice (some ⟨fb, 0, none⟩) 2 cap) (Value.slice po bs.length co) 1 0 lim gv0 nilS pr tv).setIfInBounds 9 (.slice (some ⟨fb, 0, none⟩) 1 1) = (chM vz wz nilS nilS (.slice (some ⟨fb, 0, none⟩) 1 1) (Value.slice po bs.length co) 1 0 lim gv0 nilS pr tv) from by kernel_rfl] at hr1)
  replace HWZ := hid ((HWZ.out.kept M.kept).keptC K1 c1' (by decide))
  replace HPV := hid ((HPV.out.kept M.kept).keptC K1 c1' HO.out)
  replace HG1 := hid ((HG1.out.kept M.kept).keptC K1 c1' HO.out)
  replace HS1 := hid ((HS1.out.kept M.kept).keptC K1 c1' (by decide))
  replace HR6 := hid ((HR6.out.kept M.kept).keptC K1 c1' HO.out)
  replace HR7 := hid ((HR7.out.kept M.kept).keptC K1 c1' HO.out)
  replace HG2 := hid ((HG2.out.kept M.kept).keptC K1 c1' HO.out)
  replace HMB := hid (K1.row (M.kept.row HMB.out (by simp)) hmc)
  replace HOU := hid ((HOU.out.kept M.kept).keptC K1 c1' HO.out)
  replace HK : Hid (Kept [c, fb, mb] w w8) := HK.out.trans ((M.kept.mono (by simp)).trans (K1.mono (by simp)))
  replace hr := K1.row (M.kept.row hr (by simp)) hfc
  replace c1 := hr1
  clear K1 hr1 M c1'
  have M := Mem.start w8 []
  refine S_done ?_
  go_wp2_with ((with_reducible apply W_loadCell); rfl; exact M.kept.row c1 (by simp); exact (show (chM vz wz nilS nilS (.slice (some ⟨fb, 0, none⟩) 1 1) (Value.slice po bs.length co) 1 0 lim gv0 nilS pr tv)[9]? = some (.slice (some ⟨fb, 0, none⟩) 1 1) by kernel_rfl); exact Salg.underlying115; rfl; simp only [Act.put, List.setIfInBounds_toArray, List.set_cons_zero, List.set_cons_succ])
  refine S_region (by kernel_rfl) ?_
  refine E_stage 0 12 [0, 1, 2, 3, 4, 5, 6, 7, 8, 9, 10, 11] (by kernel_rfl) M.drew ?_
  clear M
  simp only [List.filterMap_cons, List.filterMap_nil, List.getElem?_cons_zero, List.getElem?_cons_succ]
  ((with_reducible apply E_run); rfl; rfl; (intro w M; go_simp; (try go_ints); (try simp only [↓IntWalk.iteOmega]); (try with_reducible rfl)); simp only [Act.put, List.setIfInBounds_toArray, List.set_cons_zero, List.set_cons_succ])
  ((with_reducible apply E_run); rfl; rfl; (intro w M; go_simp; (try go_ints); (try simp only [↓IntWalk.iteOmega]); (try with_reducible rfl)); simp only [Act.put, List.setIfInBounds_toArray, List.set_cons_zero, List.set_cons_succ])
  ((with_reducible apply E_run); rfl; rfl; (intro w M; go_simp; (try go_ints); (try simp only [↓IntWalk.iteOmega]); (try with_reducible rfl)); simp only [Act.put, List.setIfInBounds_toArray, List.set_cons_zero, List.set_cons_succ])
  ((with_reducible apply E_run); rfl; rfl; (intro w M; exact run_loadCell (M.kept.row c1 (by simp)) rfl (show (chM vz wz nilS nilS (.slice (some ⟨fb, 0, none⟩) 1 1) (Value.slice po bs.length co) 1 0 lim gv0 nilS pr tv)[9]? = some (.slice (some ⟨fb, 0, none⟩) 1 1) by kernel_rfl) Salg.underlying115 rfl); simp only [Act.put, List.setIfInBounds_toArray, List.set_cons_zero, List.set_cons_succ])
  ((with_reducible apply E_run); rfl; rfl; (intro w M; go_simp; (try go_ints); (try simp only [↓IntWalk.iteOmega]); (try with_reducible rfl)); simp only [Act.put, List.setIfInBounds_toArray, List.set_cons_zero, List.set_cons_succ])
  ((with_reducible apply E_run); rfl; rfl; (intro w M; go_simp; (try go_ints); (try simp only [↓IntWalk.iteOmega]); (try with_reducible rfl)); simp only [Act.put, List.setIfInBounds_toArray, List.set_cons_zero, List.set_cons_succ])
  ((with_reducible apply E_run); rfl; rfl; (intro w M; go_simp; (try go_ints); (try simp only [↓IntWalk.iteOmega]); (try with_reducible rfl)); simp only [Act.put, List.setIfInBounds_toArray, List.set_cons_zero, List.set_cons_succ])
  ((with_reducible apply E_run); rfl; rfl; (intro w M; exact run_loadCell (M.kept.row c1 (by simp)) rfl (show (chM vz wz nilS nilS (.slice (some ⟨fb, 0, none⟩) 1 1) (Value.slice po bs.length co) 1 0 lim gv0 nilS pr tv)[9]? = some (.slice (some ⟨fb, 0, none⟩) 1 1) by kernel_rfl) Salg.underlying115 rfl); simp only [Act.put, List.setIfInBounds_toArray, List.set_cons_zero, List.set_cons_succ])
  ((with_reducible apply E_run); rfl; rfl; (intro w M; go_simp; (try go_ints); (try simp only [↓IntWalk.iteOmega]); (try with_reducible rfl)); simp only [Act.put, List.setIfInBounds_toArray, List.set_cons_zero, List.set_cons_succ])
  ((with_reducible apply E_run); rfl; rfl; (intro w M; go_simp; (try go_ints); (try simp only [↓IntWalk.iteOmega]); (try with_reducible rfl)); simp only [Act.put, List.setIfInBounds_toArray, List.set_cons_zero, List.set_cons_succ])
  ((with_reducible apply E_run); rfl; rfl; (intro w M; go_simp; (try go_ints); (try simp only [↓IntWalk.iteOmega]); (try with_reducible rfl)); simp only [Act.put, List.setIfInBounds_toArray, List.set_cons_zero, List.set_cons_succ])
  ((with_reducible apply E_run); rfl; rfl; (intro w M; go_simp; (try go_ints); (try simp only [↓IntWalk.iteOmega]); (try with_reducible rfl)); simp only [Act.put, List.setIfInBounds_toArray, List.set_cons_zero, List.set_cons_succ])
  refine E_nil ?_
  intro w9 K M
  clear K
  refine S_done ?_
  go_wp2_with ((with_reducible apply W_loadCell); rfl; exact M.kept.row hr (by simp); exact q4; exact Salg.underlying89; rfl; simp only [Act.put, List.setIfInBounds_toArray, List.set_cons_zero, List.set_cons_succ])
  refine (add_freshO w gv1 gv2 G1 G2 _ (Nat.le_trans HK.out.size M.kept.size) (HG1.out.kept M.kept) (HG2.out.kept M.kept) (by omega) (by omega)).mono ?_
  rintro e w10 ⟨gs, rfl, xHGF, K⟩
  have HGF := hid xHGF
  replace M := M.call K
  clear K xHGF
  have hrow := M.kept.row hr (by simp)
  have HGS := hid (HGF.out.off (S := [mb]) (by simpa using hmw))
  have hgo := HGF.out.one
  go_wp2_with ((with_reducible apply W_stV (b := fb) (o := 4) (v := gs)); rfl; rfl; exact hgo; exact hrow; exact size89; exact z4; intro w11 K1 hr11)
  replace HWZ := hid ((HWZ.out.kept M.kept).keptC K1 hrow (by decide))
  replace HPV := hid ((HPV.out.kept M.kept).keptC K1 hrow HNB.out)
  replace HS1 := hid ((HS1.out.kept M.kept).keptC K1 hrow (by decide))
  replace HR6 := hid ((HR6.out.kept M.kept).keptC K1 hrow HNB.out)
  replace HR7 := hid ((HR7.out.kept M.kept).keptC K1 hrow HNB.out)
  replace HMB := hid (K1.row (M.kept.row HMB.out (by simp)) hmf)
  replace HOU := hid ((HOU.out.kept M.kept).keptC K1 hrow HNB.out)
  replace HK : Hid (Kept [c, fb, mb] w w11) := HK.out.trans ((M.kept.mono (by simp)).trans (K1.mono (by simp)))
  replace HGS := hid (HGS.out.keptC K1 hrow HNB.out)
  replace c1 := K1.row (M.kept.row c1 (by simp)) hcf
  clear K1 M hrow hr HG2 HGF HG1
  have M := Mem.start w11 []
  have q6' : (fs.setIfInBounds 4 gs)[0 + 6]? = some r6 := (Array.getElem?_setIfInBounds_ne (by decide)).trans q6
  have q7' : (fs.setIfInBounds 4 gs)[0 + 7]? = some r7 := (Array.getElem?_setIfInBounds_ne (by decide)).trans q7
  have q9' : (fs.setIfInBounds 4 gs)[0 + 9]? = some (.slice (some ⟨mb, 0, none⟩) L L) := (Array.getElem?_setIfInBounds_ne (by decide)).trans q9
  have HNB2 := hid (not_bytes_at (tc := 142) (cs := fs.setIfInBounds 4 gs) (i := 0 + 9) q9')
  refine (num_freshO w _ 1 rfl (by decide) _ (Nat.le_trans HK.out.size M.kept.size)).mono ?_
  rintro e w12 ⟨fv, rfl, xHFF, K⟩
  have HFF := hid xHFF
  replace M := M.call K
  clear K xHFF
  have HFV := hid (HFF.out.off (S := [mb]) (by simpa using hmw))
  go_wp2_with ((with_reducible apply W_loadCell); rfl; exact M.kept.row hr11 (by simp); exact q7'; exact Salg.underlying89; rfl; simp only [Act.put, List.setIfInBounds_toArray, List.set_cons_zero, List.set_cons_succ])
  refine (small_any r7 ON _ (HR7.out.kept M.kept) (by omega)).mono ?_
  rintro e w13 ⟨rfl, hw⟩
  replace hw := hw.symm
  subst hw
  go_wp2_with ((with_reducible apply W_min (m := ON) (n := bs.length) (k := 0)); rfl; rfl; exact HKK.out.symm; simp only [Act.put, List.setIfInBounds_toArray, List.set_cons_zero, List.set_cons_succ])
  go_wp2_with fail
  have hrow := M.kept.row hr11 (by simp)
  have q3' : (fs.setIfInBounds 4 gs)[0 + 3]? = some pv1 := (Array.getElem?_setIfInBounds_ne (by decide)).trans q3
  have q8' : (fs.setIfInBounds 4 gs)[0 + 8]? = some sv1 := (Array.getElem?_setIfInBounds_ne (by decide)).trans q8
  refine (answer_fresh fb 0 m1 0 1 (fs.setIfInBounds 4 gs) pv1 _ fv [] _ hrow q3' (HPV.out.num.kept M.kept) q8' (HS1.out.kept M.kept) (HFV.out.num) (by simp) (by simp) (by omega)).mono ?_
  rintro e w17 ⟨r17, v', pv', rfl, K1, hr17, x1, x2⟩
  have HSV := hid x1
  have hsw := Nat.le_trans HK.out.size M.kept.size
  have HPN := hid ((x2.older hsw).off (S := [mb]) (by simpa using hmw))
  replace HFV := hid (HFV.out.keptC K1 hrow HNB2.out)
  replace HGS := hid ((HGS.out.kept M.kept).keptC K1 hrow HNB2.out)
  replace HWZ := hid ((HWZ.out.kept M.kept).keptC K1 hrow (by decide))
  replace HMB := hid (K1.row (M.kept.row HMB.out (by simp)) hmf)
  replace HOU := hid ((HOU.out.kept M.kept).keptC K1 hrow HNB2.out)
  replace HK : Hid (Kept [c, fb, mb] w w17) := HK.out.trans ((M.kept.mono (by simp)).trans (K1.mono (by simp)))
  replace c1 := K1.row (M.kept.row c1 (by simp)) hcf
  clear K1 M hrow hr11 x1 x2
  go_wp2_with fail
  go_end0
  refine ⟨_, fs, rfl, ⟨wz, c1, HWZ.out⟩, ⟨_, pv', gs, v', [fv], hr17, by simp only [Array.size_setIfInBounds], fun k k3 k4 k8 k9 => by rw [Array.getElem?_setIfInBounds_ne (by omega), Array.getElem?_setIfInBounds_ne (by omega), Array.getElem?_setIfInBounds_ne (by omega)], Array.getElem?_setIfInBounds_self_of_lt (by simp; omega), HPN.out, by rw [Array.getElem?_setIfInBounds_ne (by omega), Array.getElem?_setIfInBounds_ne (by omega), Array.getElem?_setIfInBounds_self_of_lt z4], HGS.out, by rw [Array.getElem?_setIfInBounds_ne (by omega), Array.getElem?_setIfInBounds_self_of_lt (by simp; omega)], HSV.out, ?_, by rw [Array.getElem?_setIfInBounds_ne (by omega), Array.getElem?_setIfInBounds_ne (by omega), Array.getElem?_setIfInBounds_ne (by omega)]; exact q9, ?_⟩, fun k hk => HX2.out k (by omega) (by omega) (by omega) (by omega), hz.trans hsz.symm, HMB.out, HOU.out, HK.out⟩
  · exact (show NumsV w17 [] [] from ⟨rfl, fun k v n e => by simp at e⟩).push HFV.out.num
  · intro j v n hj e1 e2
    have : j = 0 := by omega
    subst this
    cases e1
    cases e2
    exact HFV.out

set_option maxHeartbeats 4000000 in
set_option maxRecDepth 100000 in
theorem leaveX_in_some (c fb cap m1 G1 m2 G2 ON OA mb L k : Nat) (cur : Array Value) (ns2 : List Nat) (la : List (List Nat)) (E : CEnv) (rt pv1 gv1 sv1 r6 r7 sg vn cw iu a0 a1 a2 a3 mv2 out : Value) (mem bs : List Nat) (w : World) (hC : ChX w c E (.slice (some ⟨fb, 0, none⟩) 2 cap) rt la) (hF : FrameQ w fb 60 cur m2 G2 ns2 mv2) (hcur : ∀ k, k < 60 → cur[60 + k]? = (frX sg vn cw iu (wrow4 a0 a1 a2 a3))[k]?) (hone : ∀ u ∈ (frX sg vn cw iu (wrow4 a0 a1 a2 a3)), u.oneCell' = true) (hP : PartsV w pv1 gv1 sv1 [] m1 G1 []) (hoff : LieOff [mb] pv1) (p3 : cur[3]? = some pv1) (p4 : cur[4]? = some gv1) (p6 : cur[6]? = some r6) (p7 : cur[7]? = some r7) (p8 : cur[8]? = some sv1) (p9 : cur[9]? = some (.slice (some ⟨mb, 0, none⟩) L L)) (h6' : NumV w r6 OA) (h7' : NumV w r7 ON) (hmb : w.heap[mb]? = some (R8 5 mem)) (hL : mem.length = L) (hLL : L ≤ 10000) (hout : NatV w out bs) (hsz : cur.size = cap * 60) (hcap : 2 ≤ cap) (hcap2 : cap ≤ maxLen) (hm : m1 ≤ 900) (hG1 : G1 < 256 ^ 100) (hG2 : G2 < 256 ^ 100) (o4 : mv2.oneCell' = true) (hON : ON ≤ 1000) (hbl : bs.length ≤ 1000) (hk : min ON bs.length = k) (hk0 : 0 < k) (hfit : OA + k ≤ L) (hmo : ∀ b, out.ownBlock = some b → b ≠ mb) :
    Calls Salg.prog 112 #[.pointer (some ⟨c, 0, none⟩), .int .u8 0, out] w fun e w' => ∃ (r : Value) (fs1 : Array Value), e = .returned r ∧ ChX w' c E (.slice (some ⟨fb, 0, none⟩) 1 1) out la ∧ FrameM [mb] 1 w' fb 0 fs1 (m1 + 1) (G1 + G2) [1] (.slice (some ⟨mb, 0, none⟩) L L) ∧ (∀ k, k < 60 → fs1[k]? = cur[k]?) ∧ fs1.size = cur.size ∧ w'.heap[mb]? = some (R8 5 (wrB mem OA (bs.take k))) ∧ NatV w' out bs ∧ Kept [c, fb, mb] w w' := by
  have M := Mem.start w []
  obtain ⟨fs, pv2, gv2, sv2, xs2, hr, h0, h2, h3, h4, h5, h6, h7, h8, h9, ha⟩ := hF
  obtain ⟨wz, c1, c2⟩ := hC
  obtain ⟨vz, lim, gv0, pr, tv, nv, bv, cu, nvb, bvb, cu2, nv3, bv3⟩ := E
  simp only at c1
  have hfc : fb ∉ [c] := row_ne c1 hr (by intro h; injection h with _ h _; exact absurd h (by decide))
  have hcf : c ∉ [fb] := row_ne hr c1 (by intro h; injection h with _ h _; exact absurd h (by decide))
  have hmc : mb ∉ [c] := row_ne c1 hmb (fun e => chM_nb _ _ _ _ _ _ _ _ _ _ _ _ _ _ _ e.symm)
  have hz : fs.size = cap * 60 := h0.trans hsz
  have HX : Hid (fs.extract 60 (60 + 60) = (frS (frX sg vn cw iu (wrow4 a0 a1 a2 a3)) pv2 gv2 sv2 mv2).toArray) := frame_ext (by kernel_rfl) (by omega) (frS_get (f := fun k => fs[60 + k]?) (by kernel_rfl) (fun k k1 k3 k4 k8 k9 => (h2 (60 + k) (by omega) (by omega) (by omega) (by omega)).trans (hcur k k1)) h3 h5 h7 ha)
  have H1 := hid (frS_one hone h4.one h6.one h8.one o4)
  have q3 : fs[0 + 3]? = some pv1 := (h2 3 (by decide) (by decide) (by decide) (by decide)).trans p3
  have q4 : fs[0 + 4]? = some gv1 := (h2 4 (by decide) (by decide) (by decide) (by decide)).trans p4
  have q6 : fs[0 + 6]? = some r6 := (h2 6 (by decide) (by decide) (by decide) (by decide)).trans p6
  have q7 : fs[0 + 7]? = some r7 := (h2 7 (by decide) (by decide) (by decide) (by decide)).trans p7
  have q8 : fs[0 + 8]? = some sv1 := (h2 8 (by decide) (by decide) (by decide) (by decide)).trans p8
  have q9 : fs[0 + 9]? = some (.slice (some ⟨mb, 0, none⟩) L L) := (h2 9 (by decide) (by decide) (by decide) (by decide)).trans p9
  have HX2 : Hid (∀ k, k ≠ 60 + 3 → k ≠ 60 + 4 → k ≠ 60 + 8 → k ≠ 60 + 9 → fs[k]? = cur[k]?) := h2
  have HNB := hid (not_bytes_at (tc := 142) q9)
  have hmf : mb ∉ [fb] := row_ne hr hmb (fun e => HNB.out _ _ e.symm)
  have hmw := lt_of_row hmb
  replace c1 : w.heap[c]? = some (.cells (chM vz wz nilS nilS (.slice (some ⟨fb, 0, none⟩) 2 cap) rt 1 0 lim gv0 nilS pr tv) 119 (0, 0)) := c1
  have HO := hid (chM_nb vz wz nilS nilS (.slice (some ⟨fb, 0, none⟩) 2 cap) rt 1 0 lim gv0 nilS pr tv)
  have HWZ := hid c2
  have HPV := hid (hP.p.offS hoff)
  have HG1 := hid hP.g
  have HS1 := hid hP.s
  have HR6 := hid h6'
  have HR7 := hid h7'
  have HG2 := hid h6
  have HMB := hid hmb
  have houo := hout.one
  have HOU := hid hout
  have hfl := lt_of_row hr
  have hcl := lt_of_row c1
  have z4 : 4 < fs.size := by omega
  have HK : Hid (Kept [c, fb, mb] w w) := Kept.refl _ _
  obtain ⟨sb, co, rfl, hco⟩ : ∃ sb co, out = (Value.slice (some ⟨sb, 0, none⟩) bs.length co) ∧ bs.length ≤ co := by
    obtain ⟨p, cc, e, h1, _, hd, _⟩ := hout
    rcases hd with hd | ⟨b, t, cs, e2, hr, hp⟩
    · rw [hd] at hk
      simp at hk
      omega
    · subst e2
      exact ⟨b, cc, e, h1⟩
  have hsm : (Value.slice (some ⟨sb, 0, none⟩) bs.length co).ownBlock ≠ some mb := fun e => hmo mb e rfl
  have HKK := hid hk
  have dk : decide ((0 : Int) < (k : Int)) = true := by simp; omega
  have hkb : k ≤ bs.length := by omega
  clear h2 h3 h4 h5 h6 h7 h8 h9 ha c2 hP h6' h7' hcur h0 hone hmb hout hk
  go_enter Salg.func112, Salg.ntmps112
  go_wp2_with fail
  refine S_region (by kernel_rfl) ?_
  refine E_float 0 13 [0, 1, 2, 3, 4, 5, 6, 7, 8, 9, 10, 11] 12 6 _ (by kernel_rfl) ⟨⟨_, _, _, _, _, rfl, zero142, rfl⟩⟩ (by simp) M.drew ?_
  clear M
  simp only [List.filterMap_cons, List.filterMap_nil, List.getElem?_cons_zero, List.getElem?_cons_succ]
  ((with_reducible apply E_run); rfl; rfl; (intro w M; go_simp; (try go_ints); (try simp only [↓IntWalk.iteOmega]); (try with_reducible rfl)); simp only [Act.put, List.setIfInBounds_toArray, List.set_cons_zero, List.set_cons_succ])
  ((with_reducible apply E_run); rfl; rfl; (intro w M; go_simp; (try go_ints); (try simp only [↓IntWalk.iteOmega]); (try with_reducible rfl)); simp only [Act.put, List.setIfInBounds_toArray, List.set_cons_zero, List.set_cons_succ])
  ((with_reducible apply E_run); rfl; rfl; (intro w M; go_simp; (try go_ints); (try simp only [↓IntWalk.iteOmega]); (try with_reducible rfl)); simp only [Act.put, List.setIfInBounds_toArray, List.set_cons_zero, List.set_cons_succ])
  ((with_reducible apply E_run); rfl; rfl; (intro w M; exact run_loadCell (M.kept.row c1 (by simp)) rfl (show (chM vz wz nilS nilS (.slice (some ⟨fb, 0, none⟩) 2 cap) rt 1 0 lim gv0 nilS pr tv)[9]? = some (.slice (some ⟨fb, 0, none⟩) 2 cap) by kernel_rfl) Salg.underlying115 rfl); simp only [Act.put, List.setIfInBounds_toArray, List.set_cons_zero, List.set_cons_succ])
  ((with_reducible apply E_run); rfl; rfl; (intro w M; go_simp; (try go_ints); (try simp only [↓IntWalk.iteOmega]); (try with_reducible rfl)); simp only [Act.put, List.setIfInBounds_toArray, List.set_cons_zero, List.set_cons_succ])
  ((with_reducible apply E_run); rfl; rfl; (intro w M; go_simp; (try go_ints); (try simp only [↓IntWalk.iteOmega]); (try with_reducible rfl)); simp only [Act.put, List.setIfInBounds_toArray, List.set_cons_zero, List.set_cons_succ])
  ((with_reducible apply E_run); rfl; rfl; (intro w M; go_simp; (try go_ints); (try simp only [↓IntWalk.iteOmega]); (try with_reducible rfl)); simp only [Act.put, List.setIfInBounds_toArray, List.set_cons_zero, List.set_cons_succ])
  ((with_reducible apply E_run); rfl; rfl; (intro w M; exact run_loadCell (M.kept.row c1 (by simp)) rfl (show (chM vz wz nilS nilS (.slice (some ⟨fb, 0, none⟩) 2 cap) rt 1 0 lim gv0 nilS pr tv)[9]? = some (.slice (some ⟨fb, 0, none⟩) 2 cap) by kernel_rfl) Salg.underlying115 rfl); simp only [Act.put, List.setIfInBounds_toArray, List.set_cons_zero, List.set_cons_succ])
  ((with_reducible apply E_run); rfl; rfl; (intro w M; go_simp; (try go_ints); (try simp only [↓IntWalk.iteOmega]); (try with_reducible rfl)); simp only [Act.put, List.setIfInBounds_toArray, List.set_cons_zero, List.set_cons_succ])
  ((with_reducible apply E_run); rfl; rfl; (intro w M; go_simp; (try go_ints); (try simp only [↓IntWalk.iteOmega]); (try with_reducible rfl)); simp only [Act.put, List.setIfInBounds_toArray, List.set_cons_zero, List.set_cons_succ])
  ((with_reducible apply E_run); rfl; rfl; (intro w M; go_simp; (try go_ints); (try simp only [↓IntWalk.iteOmega]); (try with_reducible rfl)); simp only [Act.put, List.setIfInBounds_toArray, List.set_cons_zero, List.set_cons_succ])
  ((with_reducible apply E_run (v := .agg (frS (frX sg vn cw iu (wrow4 a0 a1 a2 a3)) pv2 gv2 sv2 mv2).toArray)); rfl; rfl; (intro w M; exact run_loadX (n := 60) (M.kept.row hr (by simp)) rfl Salg.underlying142 rfl size142 (by omega) HX.out); simp only [Act.put, List.setIfInBounds_toArray, List.set_cons_zero, List.set_cons_succ])
  refine E_nil ?_
  intro w1 K1 M
  clear K1
  intro t6 w2 K1 ht6 M
  clear K1
  simp only [Act.put, List.setIfInBounds_toArray, List.set_cons_zero, List.set_cons_succ]
  refine S_seg 13 14 (by kernel_rfl) (by decide) ?_
  simp only [List.take_succ_cons, List.take_zero, List.drop_zero, List.drop_succ_cons, Nat.sub_zero, Nat.reduceSub]
  go_wp2_with ((with_reducible apply W_storeK (b := t6) (vs := (frS (frX sg vn cw iu (wrow4 a0 a1 a2 a3)) pv2 gv2 sv2 mv2).toArray)); rfl; rfl; exact M.r0; exact size142; rfl; exact H1.out; intro w3 K1 hr3; replace M := Mem.callPut (L1 := []) M (Or.inr ht6) K1 hr3; clear K1 hr3; simp only [List.nil_append] at M)
  refine S_done ?_
  go_wp2_with (first
    | ((with_reducible apply W_loadCell); rfl; exact M.r0; exact (show (frS (frX sg vn cw iu (wrow4 a0 a1 a2 a3)) pv2 gv2 sv2 mv2).toArray[4]? = some gv2 by kernel_rfl); exact Salg.underlying89; rfl; simp only [Act.put, List.setIfInBounds_toArray, List.set_cons_zero, List.set_cons_succ])
    | ((with_reducible apply W_loadCell); rfl; exact M.r0; exact (show (frS (frX sg vn cw iu (wrow4 a0 a1 a2 a3)) pv2 gv2 sv2 mv2).toArray[0]? = some (.int .u8 2) by kernel_rfl); exact Salg.underlying5; rfl; simp only [Act.put, List.setIfInBounds_toArray, List.set_cons_zero, List.set_cons_succ]))
  refine (creates_two _).mono ?_
  rintro e w4 ⟨rfl, hw⟩
  replace hw := hw.symm
  subst hw
  replace c1 := M.kept.row c1 (by simp)
  replace hr := M.kept.row hr (by simp)
  replace HMB := hid (M.kept.row HMB.out (by simp))
  replace HWZ := hid (HWZ.out.kept M.kept)
  replace HPV := hid (HPV.out.kept M.kept)
  replace HG1 := hid (HG1.out.kept M.kept)
  replace HS1 := hid (HS1.out.kept M.kept)
  replace HR6 := hid (HR6.out.kept M.kept)
  replace HR7 := hid (HR7.out.kept M.kept)
  replace HG2 := hid (HG2.out.kept M.kept)
  replace HOU := hid (HOU.out.kept M.kept)
  replace HK : Hid (Kept [c, fb, mb] w w3) := M.kept.mono (by simp)
  clear M
  go_wp2_with ((with_reducible apply W_stV (b := c) (o := 10) (v := (Value.slice (some ⟨sb, 0, none⟩) bs.length co))); rfl; rfl; exact rfl; exact c1; exact size40; exact Nat.le_of_ble_eq_true (by kernel_rfl); intro w6 K1 hr1; rw [show (chM vz wz nilS nilS (.slice (some ⟨fb, 0, none⟩) 2 cap) rt 1 0 lim gv0 nilS pr tv).setIfInBounds 10 ((Value.slice (some ⟨sb, 0, none⟩) bs.length co)) = (chM vz wz nilS nilS (.slice (some ⟨fb, 0, none⟩) 2 cap) (Value.slice (some ⟨sb, 0, none⟩) bs.length co) 1 0 lim gv0 nilS pr tv) from by kernel_rfl] at hr1)
  replace HWZ := hid (HWZ.out.keptC K1 c1 (by decide))
  replace HPV := hid (HPV.out.keptC K1 c1 HO.out)
  replace HG1 := hid (HG1.out.keptC K1 c1 HO.out)
  replace HS1 := hid (HS1.out.keptC K1 c1 (by decide))
  replace HR6 := hid (HR6.out.keptC K1 c1 HO.out)
  replace HR7 := hid (HR7.out.keptC K1 c1 HO.out)
  replace HG2 := hid (HG2.out.keptC K1 c1 HO.out)
  replace HMB := hid (K1.row HMB.out hmc)
  replace HOU := hid (HOU.out.keptC K1 c1 HO.out)
  replace HK : Hid (Kept [c, fb, mb] w w6) := HK.out.trans ((K1.mono (by simp)))
  replace hr := K1.row hr hfc
  replace HO := hid (chM_nb vz wz nilS nilS (.slice (some ⟨fb, 0, none⟩) 2 cap) (Value.slice (some ⟨sb, 0, none⟩) bs.length co) 1 0 lim gv0 nilS pr tv)
  replace c1 := hr1
  clear K1 hr1
  have M := Mem.start w6 []
  refine S_region (by kernel_rfl) ?_
  refine E_stage 0 18 [0, 1, 2, 3, 4, 5, 6, 7, 8, 9, 10, 11, 12, 13, 14, 15, 16, 17] (by kernel_rfl) M.drew ?_
  clear M
  simp only [List.filterMap_cons, List.filterMap_nil, List.getElem?_cons_zero, List.getElem?_cons_succ]
  ((with_reducible apply E_run); rfl; rfl; (intro w M; go_simp; (try go_ints); (try simp only [↓IntWalk.iteOmega]); (try with_reducible rfl)); simp only [Act.put, List.setIfInBounds_toArray, List.set_cons_zero, List.set_cons_succ])
  ((with_reducible apply E_run); rfl; rfl; (intro w M; go_simp; (try go_ints); (try simp only [↓IntWalk.iteOmega]); (try with_reducible rfl)); simp only [Act.put, List.setIfInBounds_toArray, List.set_cons_zero, List.set_cons_succ])
  ((with_reducible apply E_run); rfl; rfl; (intro w M; go_simp; (try go_ints); (try simp only [↓IntWalk.iteOmega]); (try with_reducible rfl)); simp only [Act.put, List.setIfInBounds_toArray, List.set_cons_zero, List.set_cons_succ])
  ((with_reducible apply E_run); rfl; rfl; (intro w M; go_simp; (try go_ints); (try simp only [↓IntWalk.iteOmega]); (try with_reducible rfl)); simp only [Act.put, List.setIfInBounds_toArray, List.set_cons_zero, List.set_cons_succ])
  ((with_reducible apply E_run); rfl; rfl; (intro w M; exact run_loadCell (M.kept.row c1 (by simp)) rfl (show (chM vz wz nilS nilS (.slice (some ⟨fb, 0, none⟩) 2 cap) (Value.slice (some ⟨sb, 0, none⟩) bs.length co) 1 0 lim gv0 nilS pr tv)[9]? = some (.slice (some ⟨fb, 0, none⟩) 2 cap) by kernel_rfl) Salg.underlying115 rfl); simp only [Act.put, List.setIfInBounds_toArray, List.set_cons_zero, List.set_cons_succ])
  ((with_reducible apply E_run); rfl; rfl; (intro w M; go_simp; (try go_ints); (try simp only [↓IntWalk.iteOmega]); (try with_reducible rfl)); simp only [Act.put, List.setIfInBounds_toArray, List.set_cons_zero, List.set_cons_succ])
  ((with_reducible apply E_run); rfl; rfl; (intro w M; go_simp; (try go_ints); (try simp only [↓IntWalk.iteOmega]); (try with_reducible rfl)); simp only [Act.put, List.setIfInBounds_toArray, List.set_cons_zero, List.set_cons_succ])
  ((with_reducible apply E_run); rfl; rfl; (intro w M; go_simp; (try go_ints); (try simp only [↓IntWalk.iteOmega]); (try with_reducible rfl)); simp only [Act.put, List.setIfInBounds_toArray, List.set_cons_zero, List.set_cons_succ])
  ((with_reducible apply E_run); rfl; rfl; (intro w M; exact run_loadCell (M.kept.row c1 (by simp)) rfl (show (chM vz wz nilS nilS (.slice (some ⟨fb, 0, none⟩) 2 cap) (Value.slice (some ⟨sb, 0, none⟩) bs.length co) 1 0 lim gv0 nilS pr tv)[9]? = some (.slice (some ⟨fb, 0, none⟩) 2 cap) by kernel_rfl) Salg.underlying115 rfl); simp only [Act.put, List.setIfInBounds_toArray, List.set_cons_zero, List.set_cons_succ])
  ((with_reducible apply E_run); rfl; rfl; (intro w M; go_simp; (try go_ints); (try simp only [↓IntWalk.iteOmega]); (try with_reducible rfl)); simp only [Act.put, List.setIfInBounds_toArray, List.set_cons_zero, List.set_cons_succ])
  ((with_reducible apply E_run); rfl; rfl; (intro w M; go_simp; (try go_ints); (try simp only [↓IntWalk.iteOmega]); (try with_reducible rfl)); simp only [Act.put, List.setIfInBounds_toArray, List.set_cons_zero, List.set_cons_succ])
  ((with_reducible apply E_run); rfl; rfl; (intro w M; go_simp; (try go_ints); (try simp only [↓IntWalk.iteOmega]); (try with_reducible rfl)); simp only [Act.put, List.setIfInBounds_toArray, List.set_cons_zero, List.set_cons_succ])
  ((with_reducible apply E_run); rfl; rfl; (intro w M; go_simp; (try go_ints); (try simp only [↓IntWalk.iteOmega]); (try with_reducible rfl)); simp only [Act.put, List.setIfInBounds_toArray, List.set_cons_zero, List.set_cons_succ])
  ((with_reducible apply E_run); rfl; rfl; (intro w M; go_simp; (try go_ints); (try simp only [↓IntWalk.iteOmega]); (try with_reducible rfl)); simp only [Act.put, List.setIfInBounds_toArray, List.set_cons_zero, List.set_cons_succ])
  ((with_reducible apply E_run); rfl; rfl; (intro w M; exact run_loadCell (M.kept.row c1 (by simp)) rfl (show (chM vz wz nilS nilS (.slice (some ⟨fb, 0, none⟩) 2 cap) (Value.slice (some ⟨sb, 0, none⟩) bs.length co) 1 0 lim gv0 nilS pr tv)[9]? = some (.slice (some ⟨fb, 0, none⟩) 2 cap) by kernel_rfl) Salg.underlying115 rfl); simp only [Act.put, List.setIfInBounds_toArray, List.set_cons_zero, List.set_cons_succ])
  ((with_reducible apply E_run); rfl; rfl; (intro w M; go_simp; (try go_ints); (try simp only [↓IntWalk.iteOmega]); (try with_reducible rfl)); simp only [Act.put, List.setIfInBounds_toArray, List.set_cons_zero, List.set_cons_succ])
  ((with_reducible apply E_run); rfl; rfl; (intro w M; go_simp; (try go_ints); (try simp only [↓IntWalk.iteOmega]); (try with_reducible rfl)); simp only [Act.put, List.setIfInBounds_toArray, List.set_cons_zero, List.set_cons_succ])
  ((with_reducible apply E_run); rfl; rfl; (intro w M; exact run_slice3 (n := 1) rfl rfl rfl (by omega) (by omega) Salg.underlying115 ⟨60, size142⟩ (by omega)); simp only [Act.put, List.setIfInBounds_toArray, List.set_cons_zero, List.set_cons_succ])
  refine E_nil ?_
  intro w7 K M
  clear K
  have c1' := M.kept.row c1 (by simp)
  refine S_seg 18 21 (by kernel_rfl) (by decide) ?_
  simp only [List.take_succ_cons, List.take_zero, List.drop_zero, List.drop_succ_cons, Nat.sub_zero, Nat.reduceSub]
  go_wp2_with ((with_reducible apply W_stV (b := c) (o := 9) (v := .slice (some ⟨fb, 0, none⟩) 1 1)); rfl; rfl; exact rfl; exact c1'; exact size115; exact Nat.le_of_ble_eq_true (by kernel_rfl); intro w8 K1 hr1; rw [show (chM vz wz nilS nilS (.slice (some ⟨fb, 0, none⟩) 2 cap) (Value.slice (some ⟨sb, 0, none⟩) bs.length co) 1 0 lim gv0 nilS pr tv).setIfInBounds 9 (.slice (some ⟨fb, 0, none⟩) 1 1) = (chM vz wz nilS nilS (.slice (some ⟨fb, 0, none⟩) 1 1) (Value.slice (some ⟨sb, 0, none⟩) bs.length co) 1 0 lim gv0 nilS pr tv) from by kernel_rfl] at hr1)
  replace HWZ := hid ((HWZ.out.kept M.kept).keptC K1 c1' (by decide))
  replace HPV := hid ((HPV.out.kept M.kept).keptC K1 c1' HO.out)
  replace HG1 := hid ((HG1.out.kept M.kept).keptC K1 c1' HO.out)
  replace HS1 := hid ((HS1.out.kept M.kept).keptC K1 c1' (by decide))
  replace HR6 := hid ((HR6.out.kept M.kept).keptC K1 c1' HO.out)
  replace HR7 := hid ((HR7.out.kept M.kept).keptC K1 c1' HO.out)
  replace HG2 := hid ((HG2.out.kept M.kept).keptC K1 c1' HO.out)
  replace HMB := hid (K1.row (M.kept.row HMB.out (by simp)) hmc)
  replace HOU := hid ((HOU.out.kept M.kept).keptC K1 c1' HO.out)
  replace HK : Hid (Kept [c, fb, mb] w w8) := HK.out.trans ((M.kept.mono (by simp)).trans (K1.mono (by simp)))
  replace hr := K1.row (M.kept.row hr (by simp)) hfc
  replace c1 := hr1
  clear K1 hr1 M c1'
  have M := Mem.start w8 []
  refine S_done ?_
  go_wp2_with ((with_reducible apply W_loadCell); rfl; exact M.kept.row c1 (by simp); exact (show (chM vz wz nilS nilS (.slice (some ⟨fb, 0, none⟩) 1 1) (Value.slice (some ⟨sb, 0, none⟩) bs.length co) 1 0 lim gv0 nilS pr tv)[9]? = some (.slice (some ⟨fb, 0, none⟩) 1 1) by kernel_rfl); exact Salg.underlying115; rfl; simp only [Act.put, List.setIfInBounds_toArray, List.set_cons_zero, List.set_cons_succ])
  refine S_region (by kernel_rfl) ?_
  refine E_stage 0 12 [0, 1, 2, 3, 4, 5, 6, 7, 8, 9, 10, 11] (by kernel_rfl) M.drew ?_
  clear M
  simp only [List.filterMap_cons, List.filterMap_nil, List.getElem?_cons_zero, List.getElem?_cons_succ]
  ((with_reducible apply E_run); rfl; rfl; (intro w M; go_simp; (try go_ints); (try simp only [↓IntWalk.iteOmega]); (try with_reducible rfl)); simp only [Act.put, List.setIfInBounds_toArray, List.set_cons_zero, List.set_cons_succ])
  ((with_reducible apply E_run); rfl; rfl; (intro w M; go_simp; (try go_ints); (try simp only [↓IntWalk.iteOmega]); (try with_reducible rfl)); simp only [Act.put, List.setIfInBounds_toArray, List.set_cons_zero, List.set_cons_succ])
  ((with_reducible apply E_run); rfl; rfl; (intro w M; go_simp; (try go_ints); (try simp only [↓IntWalk.iteOmega]); (try with_reducible rfl)); simp only [Act.put, List.setIfInBounds_toArray, List.set_cons_zero, List.set_cons_succ])
  ((with_reducible apply E_run); rfl; rfl; (intro w M; exact run_loadCell (M.kept.row c1 (by simp)) rfl (show (chM vz wz nilS nilS (.slice (some ⟨fb, 0, none⟩) 1 1) (Value.slice (some ⟨sb, 0, none⟩) bs.length co) 1 0 lim gv0 nilS pr tv)[9]? = some (.slice (some ⟨fb, 0, none⟩) 1 1) by kernel_rfl) Salg.underlying115 rfl); simp only [Act.put, List.setIfInBounds_toArray, List.set_cons_zero, List.set_cons_succ])
  ((with_reducible apply E_run); rfl; rfl; (intro w M; go_simp; (try go_ints); (try simp only [↓IntWalk.iteOmega]); (try with_reducible rfl)); simp only [Act.put, List.setIfInBounds_toArray, List.set_cons_zero, List.set_cons_succ])
  ((with_reducible apply E_run); rfl; rfl; (intro w M; go_simp; (try go_ints); (try simp only [↓IntWalk.iteOmega]); (try with_reducible rfl)); simp only [Act.put, List.setIfInBounds_toArray, List.set_cons_zero, List.set_cons_succ])
  ((with_reducible apply E_run); rfl; rfl; (intro w M; go_simp; (try go_ints); (try simp only [↓IntWalk.iteOmega]); (try with_reducible rfl)); simp only [Act.put, List.setIfInBounds_toArray, List.set_cons_zero, List.set_cons_succ])
  ((with_reducible apply E_run); rfl; rfl; (intro w M; exact run_loadCell (M.kept.row c1 (by simp)) rfl (show (chM vz wz nilS nilS (.slice (some ⟨fb, 0, none⟩) 1 1) (Value.slice (some ⟨sb, 0, none⟩) bs.length co) 1 0 lim gv0 nilS pr tv)[9]? = some (.slice (some ⟨fb, 0, none⟩) 1 1) by kernel_rfl) Salg.underlying115 rfl); simp only [Act.put, List.setIfInBounds_toArray, List.set_cons_zero, List.set_cons_succ])
  ((with_reducible apply E_run); rfl; rfl; (intro w M; go_simp; (try go_ints); (try simp only [↓IntWalk.iteOmega]); (try with_reducible rfl)); simp only [Act.put, List.setIfInBounds_toArray, List.set_cons_zero, List.set_cons_succ])
  ((with_reducible apply E_run); rfl; rfl; (intro w M; go_simp; (try go_ints); (try simp only [↓IntWalk.iteOmega]); (try with_reducible rfl)); simp only [Act.put, List.setIfInBounds_toArray, List.set_cons_zero, List.set_cons_succ])
  ((with_reducible apply E_run); rfl; rfl; (intro w M; go_simp; (try go_ints); (try simp only [↓IntWalk.iteOmega]); (try with_reducible rfl)); simp only [Act.put, List.setIfInBounds_toArray, List.set_cons_zero, List.set_cons_succ])
  ((with_reducible apply E_run); rfl; rfl; (intro w M; go_simp; (try go_ints); (try simp only [↓IntWalk.iteOmega]); (try with_reducible rfl)); simp only [Act.put, List.setIfInBounds_toArray, List.set_cons_zero, List.set_cons_succ])
  refine E_nil ?_
  intro w9 K M
  clear K
  refine S_done ?_
  go_wp2_with ((with_reducible apply W_loadCell); rfl; exact M.kept.row hr (by simp); exact q4; exact Salg.underlying89; rfl; simp only [Act.put, List.setIfInBounds_toArray, List.set_cons_zero, List.set_cons_succ])
  refine (add_freshO w gv1 gv2 G1 G2 _ (Nat.le_trans HK.out.size M.kept.size) (HG1.out.kept M.kept) (HG2.out.kept M.kept) (by omega) (by omega)).mono ?_
  rintro e w10 ⟨gs, rfl, xHGF, K⟩
  have HGF := hid xHGF
  replace M := M.call K
  clear K xHGF
  have hrow := M.kept.row hr (by simp)
  have HGS := hid (HGF.out.off (S := [mb]) (by simpa using hmw))
  have hgo := HGF.out.one
  go_wp2_with ((with_reducible apply W_stV (b := fb) (o := 4) (v := gs)); rfl; rfl; exact hgo; exact hrow; exact size89; exact z4; intro w11 K1 hr11)
  replace HWZ := hid ((HWZ.out.kept M.kept).keptC K1 hrow (by decide))
  replace HPV := hid ((HPV.out.kept M.kept).keptC K1 hrow HNB.out)
  replace HS1 := hid ((HS1.out.kept M.kept).keptC K1 hrow (by decide))
  replace HR6 := hid ((HR6.out.kept M.kept).keptC K1 hrow HNB.out)
  replace HR7 := hid ((HR7.out.kept M.kept).keptC K1 hrow HNB.out)
  replace HMB := hid (K1.row (M.kept.row HMB.out (by simp)) hmf)
  replace HOU := hid ((HOU.out.kept M.kept).keptC K1 hrow HNB.out)
  replace HK : Hid (Kept [c, fb, mb] w w11) := HK.out.trans ((M.kept.mono (by simp)).trans (K1.mono (by simp)))
  replace HGS := hid (HGS.out.keptC K1 hrow HNB.out)
  replace c1 := K1.row (M.kept.row c1 (by simp)) hcf
  clear K1 M hrow hr HG2 HGF HG1
  have M := Mem.start w11 []
  have q6' : (fs.setIfInBounds 4 gs)[0 + 6]? = some r6 := (Array.getElem?_setIfInBounds_ne (by decide)).trans q6
  have q7' : (fs.setIfInBounds 4 gs)[0 + 7]? = some r7 := (Array.getElem?_setIfInBounds_ne (by decide)).trans q7
  have q9' : (fs.setIfInBounds 4 gs)[0 + 9]? = some (.slice (some ⟨mb, 0, none⟩) L L) := (Array.getElem?_setIfInBounds_ne (by decide)).trans q9
  have HNB2 := hid (not_bytes_at (tc := 142) (cs := fs.setIfInBounds 4 gs) (i := 0 + 9) q9')
  refine (num_freshO w _ 1 rfl (by decide) _ (Nat.le_trans HK.out.size M.kept.size)).mono ?_
  rintro e w12 ⟨fv, rfl, xHFF, K⟩
  have HFF := hid xHFF
  replace M := M.call K
  clear K xHFF
  have HFV := hid (HFF.out.off (S := [mb]) (by simpa using hmw))
  go_wp2_with ((with_reducible apply W_loadCell); rfl; exact M.kept.row hr11 (by simp); exact q7'; exact Salg.underlying89; rfl; simp only [Act.put, List.setIfInBounds_toArray, List.set_cons_zero, List.set_cons_succ])
  refine (small_any r7 ON _ (HR7.out.kept M.kept) (by omega)).mono ?_
  rintro e w13 ⟨rfl, hw⟩
  replace hw := hw.symm
  subst hw
  go_wp2_with ((with_reducible apply W_min (m := ON) (n := bs.length) (k := k)); rfl; rfl; exact HKK.out.symm; simp only [Act.put, List.setIfInBounds_toArray, List.set_cons_zero, List.set_cons_succ])
  refine S_region (by kernel_rfl) ?_
  replace HFV := hid (HFV.out.kept (Kept.refl [] _).drew)
  refine E_stage 0 8 [0, 1, 2, 3, 4, 5, 6, 7] (by kernel_rfl) M.drew ?_
  clear M
  simp only [List.filterMap_cons, List.filterMap_nil, List.getElem?_cons_zero, List.getElem?_cons_succ]
  ((with_reducible apply E_run); rfl; rfl; (intro w M; go_simp; (try go_ints); (try simp only [↓IntWalk.iteOmega]); (try with_reducible rfl)); simp only [Act.put, List.setIfInBounds_toArray, List.set_cons_zero, List.set_cons_succ])
  ((with_reducible apply E_run); rfl; rfl; (intro w M; go_simp; (try go_ints); (try simp only [↓IntWalk.iteOmega]); (try with_reducible rfl)); simp only [Act.put, List.setIfInBounds_toArray, List.set_cons_zero, List.set_cons_succ])
  ((with_reducible apply E_run); rfl; rfl; (intro w M; go_simp; (try go_ints); (try simp only [↓IntWalk.iteOmega]); (try with_reducible rfl)); simp only [Act.put, List.setIfInBounds_toArray, List.set_cons_zero, List.set_cons_succ])
  ((with_reducible apply E_run); rfl; rfl; (intro w M; go_simp; (try go_ints); (try simp only [↓IntWalk.iteOmega]); (try with_reducible rfl)); simp only [Act.put, List.setIfInBounds_toArray, List.set_cons_zero, List.set_cons_succ])
  ((with_reducible apply E_run); rfl; rfl; (intro w M; exact run_loadCell (M.kept.row hr11 (by simp)) rfl q6' Salg.underlying89 rfl); simp only [Act.put, List.setIfInBounds_toArray, List.set_cons_zero, List.set_cons_succ])
  ((with_reducible apply E_run); rfl; rfl; (intro w M; go_simp; (try go_ints); (try simp only [↓IntWalk.iteOmega]); (try with_reducible rfl)); simp only [Act.put, List.setIfInBounds_toArray, List.set_cons_zero, List.set_cons_succ])
  ((with_reducible apply E_run); rfl; rfl; (intro w M; go_simp; (try go_ints); (try simp only [↓IntWalk.iteOmega]); (try with_reducible rfl)); simp only [Act.put, List.setIfInBounds_toArray, List.set_cons_zero, List.set_cons_succ])
  ((with_reducible apply E_run); rfl; rfl; (intro w M; exact run_slice2 (n := k) rfl rfl rfl Salg.underlying40 ⟨1, size5⟩ (by omega)); simp only [Act.put, List.setIfInBounds_toArray, List.set_cons_zero, List.set_cons_succ])
  refine E_nil ?_
  intro w14 K M
  replace HFV := hid (HFV.out.kept K)
  clear K
  refine S_seg 8 9 (by kernel_rfl) (by decide) ?_
  simp only [List.take_succ_cons, List.take_zero, List.drop_zero, List.drop_succ_cons, Nat.sub_zero, Nat.reduceSub]
  go_wp2_with fail
  have hrow := M.kept.row hr11 (by simp)
  have hmrow := M.kept.row HMB.out (by simp)
  obtain ⟨st, es, hsr, hpr⟩ : ∃ st es, w14.heap[sb]? = some (R8 st es) ∧ bs <+: es := by
    obtain ⟨p, cc, e, _, _, hd, _⟩ := HOU.out.kept M.kept
    cases e
    rcases hd with hd | ⟨b, t, cs, e, hr, hp⟩
    · exfalso
      rw [hd] at hkb
      simp at hkb
      omega
    · cases e
      exact ⟨t, cs, hr, hp⟩
  refine (write_take fb 0 mb sb st OA co k L (fs.setIfInBounds 4 gs) r6 mem bs es _ hrow q9' hmrow hsr hpr (HR6.out.kept M.kept) hL (by omega) hfit hk0 hLL).mono ?_
  rintro e w15 ⟨r15, rfl, hm15, K1⟩
  replace HMB := hid hm15
  have hms := soft_mem (S := [mb]) hmrow (by decide) (by simp)
  replace HWZ := hid ((HWZ.out.kept M.kept).keptC K1 hmrow (by decide))
  replace HGS := hid ((HGS.out.kept M.kept).keptB K1 (by simp))
  replace HFV := hid (HFV.out.keptB K1 (by simp))
  replace HOU := hid ((HOU.out.kept M.kept).keptB K1 (.inr hsm))
  replace HK : Hid (Kept [c, fb, mb] w w15) := HK.out.trans ((M.kept.mono (by simp)).trans (K1.mono (by simp)))
  replace c1 := K1.row (M.kept.row c1 (by simp)) (by simp at hmc ⊢; omega)
  replace hr11 := K1.row hrow (by simp at hmf ⊢; omega)
  replace HPV := hid ((HPV.out.kept M.kept).keptB K1 (by simp))
  replace HS1 := hid ((HS1.out.kept M.kept).keptC K1 hmrow (by decide))
  clear K1 M hrow hmrow hm15 HR6 HR7
  have M := Mem.start w15 []
  go_wp2_with fail
  refine S_done ?_
  go_wp2_with fail
  have hrow := M.kept.row hr11 (by simp)
  have q3' : (fs.setIfInBounds 4 gs)[0 + 3]? = some pv1 := (Array.getElem?_setIfInBounds_ne (by decide)).trans q3
  have q8' : (fs.setIfInBounds 4 gs)[0 + 8]? = some sv1 := (Array.getElem?_setIfInBounds_ne (by decide)).trans q8
  refine (answer_fresh fb 0 m1 0 1 (fs.setIfInBounds 4 gs) pv1 _ fv [] _ hrow q3' (HPV.out.num.kept M.kept) q8' (HS1.out.kept M.kept) (HFV.out.num.kept M.kept) (by simp) (by simp) (by omega)).mono ?_
  rintro e w17 ⟨r17, v', pv', rfl, K1, hr17, x1, x2⟩
  have HSV := hid x1
  have hsw := Nat.le_trans HK.out.size M.kept.size
  have HPN := hid ((x2.older hsw).off (S := [mb]) (by simpa using hmw))
  replace HFV := hid ((HFV.out.kept M.kept).keptC K1 hrow HNB2.out)
  replace HGS := hid ((HGS.out.kept M.kept).keptC K1 hrow HNB2.out)
  replace HWZ := hid ((HWZ.out.kept M.kept).keptC K1 hrow (by decide))
  replace HMB := hid (K1.row (M.kept.row HMB.out (by simp)) hmf)
  replace HOU := hid ((HOU.out.kept M.kept).keptC K1 hrow HNB2.out)
  replace HK : Hid (Kept [c, fb, mb] w w17) := HK.out.trans ((M.kept.mono (by simp)).trans (K1.mono (by simp)))
  replace c1 := K1.row (M.kept.row c1 (by simp)) hcf
  clear K1 M hrow hr11 x1 x2
  go_wp2_with fail
  go_end0
  refine ⟨_, fs, rfl, ⟨wz, c1, HWZ.out⟩, ⟨_, pv', gs, v', [fv], hr17, by simp only [Array.size_setIfInBounds], fun k k3 k4 k8 k9 => by rw [Array.getElem?_setIfInBounds_ne (by omega), Array.getElem?_setIfInBounds_ne (by omega), Array.getElem?_setIfInBounds_ne (by omega)], Array.getElem?_setIfInBounds_self_of_lt (by simp; omega), HPN.out, by rw [Array.getElem?_setIfInBounds_ne (by omega), Array.getElem?_setIfInBounds_ne (by omega), Array.getElem?_setIfInBounds_self_of_lt z4], HGS.out, by rw [Array.getElem?_setIfInBounds_ne (by omega), Array.getElem?_setIfInBounds_self_of_lt (by simp; omega)], HSV.out, ?_, by rw [Array.getElem?_setIfInBounds_ne (by omega), Array.getElem?_setIfInBounds_ne (by omega), Array.getElem?_setIfInBounds_ne (by omega)]; exact q9, ?_⟩, fun k hk => HX2.out k (by omega) (by omega) (by omega) (by omega), hz.trans hsz.symm, HMB.out, HOU.out, HK.out⟩
  · exact (show NumsV w17 [] [] from ⟨rfl, fun k v n e => by simp at e⟩).push HFV.out.num
  · intro j v n hj e1 e2
    have : j = 0 := by omega
    subst this
    cases e1
    cases e2
    exact HFV.out
end Go.Proofs.YgcsalGreat

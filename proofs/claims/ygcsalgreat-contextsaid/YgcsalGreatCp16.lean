/-
  The walk of (*yp.State).leave in a run with memory: the outer frame ends well, or by ReturnBounds.
-/
import Derived.Test.YgcsalGreatCp15
import Derived.Test.YgcsalGreatSl32
import Derived.Test.YgcsalGreatSl34
set_option linter.unusedSimpArgs false
set_option linter.unusedVariables false
namespace Go.Own
/-- A transaction that has ended with a status. -/
def EndS (w : World) (c s G : Nat) (out : List Nat) (la : List (List Nat)) (mo : Option Nat) (so : Option (Nat × Nat)) (R : Nat) (ds1 ds2 : List Nat) : Prop := ∃ (vz wz mv rv rt lim gv0 lf pr tv : Value), w.heap[c]? = some (.cells (chE vz wz mv rv rt s lim gv0 lf pr tv) 119 (0, 0)) ∧ WorldS w vz wz mv rv la mo so R ds1 ds2 ∧ NumV w lim 200000 ∧ NumV w pr 0 ∧ NumV w tv 340282366920938463463374607431768211456 ∧ NumV w lf G ∧ NatV w rt out ∧ gv0.oneCell' = true
/-- The outer frame's cells. -/
def frO (g0 vv cv iu r6 r7 : Value) (sv : List Value) : List Value := ((frL g0 vv cv iu sv).set 6 r6).set 7 r7
end Go.Own
namespace Go.Proofs.YgcsalGreat
open Go.RowKit Go.Own
theorem _root_.Go.Own.StatW.world {w : World} {E : CEnv} {ds1 ds2 : List Nat} (h : StatW w E ds1 ds2) {wz : Value} {la : List (List Nat)} (hz : AdsV w wz la) : WorldS w E.vz wz nilS nilS la none none 0 ds1 ds2 := ⟨E.nv, E.bv, E.cu, nilS, E.nv2, E.bv2, E.cu2, E.nv3, E.bv3, h.acs, hz, rfl, nil_num _, rfl, h.nv, h.bv, h.cu, h.nv2, h.bv2, h.cu2, h.nv3, h.bv3⟩

set_option maxHeartbeats 4000000 in
set_option maxRecDepth 100000 in
theorem leaveX_ok (c fb cap m G : Nat) (fs0 : Array Value) (ns : List Nat) (la la' : List (List Nat)) (ds1 ds2 : List Nat) (E : CEnv) (rt r6 r7 g0 vv cv iu a0 a1 a2 a3 mc : Value) (out : Value) (bs : List Nat) (w : World) (hC : ChX w c E (.slice (some ⟨fb, 0, none⟩) 1 cap) rt la) (hSt : StatW w E ds1 ds2) (hF : FrameQ w fb 0 fs0 m G ns mc) (hcur : ∀ k, k < 60 → k ≠ 3 → k ≠ 4 → k ≠ 8 → k ≠ 9 → fs0[k]? = (frO g0 vv cv iu r6 r7 (wrow4 a0 a1 a2 a3))[k]?) (hsz : 60 ≤ fs0.size) (hone : ∀ u ∈ (frO g0 vv cv iu r6 r7 (wrow4 a0 a1 a2 a3)), u.oneCell' = true) (o4 : mc.oneCell' = true) (hcap : 1 ≤ cap) (hout : NatV w out bs) :
    Calls Salg.prog 112 #[.pointer (some ⟨c, 0, none⟩), .int .u8 0, out] w fun e w' => ∃ (r : Value), e = .returned r ∧ EndS w' c 0 G bs la none none 0 ds1 ds2 ∧ Kept [c] w w' := by
  have M := Mem.start w []
  obtain ⟨fs, pv, gv, sv, xs, hr, h0, h2, h3, h4, h5, h6, h7, h8, h9, ha⟩ := hF
  obtain ⟨wz, c1, c2⟩ := hC
  have HWC0 := hid (hSt.world c2)
  have HC3 := hid hSt.lim
  have HC4 := hid hSt.pr
  have HC5 := hid hSt.tv
  have c6 := hSt.gv
  clear hSt c2
  obtain ⟨vz, lim, gv0, pr, tv, nv, bv, cu, nv2, bv2, cu2, nv3, bv3⟩ := E
  simp only at c1 HWC0 HC3 HC4 HC5 c6
  have hfc : fb ∉ [c] := row_ne c1 hr (by rintro h; cases h)
  have HX : Hid (fs.extract 0 (0 + 60) = (frS (frO g0 vv cv iu r6 r7 (wrow4 a0 a1 a2 a3)) pv gv sv mc).toArray) := frame_ext (by kernel_rfl) (by omega) (frS_get (f := fun k => fs[0 + k]?) (by kernel_rfl) (fun k k1 k3 k4 k8 k9 => (h2 (0 + k) (by omega) (by omega) (by omega) (by omega)).trans (by rw [Nat.zero_add]; exact hcur k k1 k3 k4 k8 k9)) h3 h5 h7 ha)
  have H1 := hid (frS_one hone h4.one h6.one h8.one o4)
  have HO := hid (chM_nb vz wz nilS nilS (.slice (some ⟨fb, 0, none⟩) 1 cap) rt 1 0 lim gv0 nilS pr tv)
  replace c1 : w.heap[c]? = some (.cells (chM vz wz nilS nilS (.slice (some ⟨fb, 0, none⟩) 1 cap) rt 1 0 lim gv0 nilS pr tv) 119 (0, 0)) := c1
  have HWC := hid HWC0.out
  have HG2 := hid h6
  have HOU := hid hout
  have houo := hout.one
  clear hout
  have hcl := lt_of_row c1
  have z60 : 60 ≤ fs.size := by omega
  clear h2 h3 h4 h5 h6 h7 h8 h9 ha hcur h0 hone HWC0
  go_enter Salg.func112, Salg.ntmps112
  go_wp2_with fail
  refine S_region (by kernel_rfl) ?_
  refine E_float 0 13 [0, 1, 2, 3, 4, 5, 6, 7, 8, 9, 10, 11] 12 6 _ (by kernel_rfl) ⟨⟨_, _, _, _, _, rfl, zero142, rfl⟩⟩ (by simp) M.drew ?_
  clear M
  simp only [List.filterMap_cons, List.filterMap_nil, List.getElem?_cons_zero, List.getElem?_cons_succ]
  ((with_reducible apply E_run); rfl; rfl; (intro w M; go_simp; (try go_ints); (try simp only [↓IntWalk.iteOmega]); (try with_reducible rfl)); simp only [Act.put, List.setIfInBounds_toArray, List.set_cons_zero, List.set_cons_succ])
  ((with_reducible apply E_run); rfl; rfl; (intro w M; go_simp; (try go_ints); (try simp only [↓IntWalk.iteOmega]); (try with_reducible rfl)); simp only [Act.put, List.setIfInBounds_toArray, List.set_cons_zero, List.set_cons_succ])
  ((with_reducible apply E_run); rfl; rfl; (intro w M; go_simp; (try go_ints); (try simp only [↓IntWalk.iteOmega]); (try with_reducible rfl)); simp only [Act.put, List.setIfInBounds_toArray, List.set_cons_zero, List.set_cons_succ])
  ((with_reducible apply E_run); rfl; rfl; (intro w M; exact run_loadCell (M.kept.row c1 (by simp)) rfl (show (chM vz wz nilS nilS (.slice (some ⟨fb, 0, none⟩) 1 cap) rt 1 0 lim gv0 nilS pr tv)[9]? = some (.slice (some ⟨fb, 0, none⟩) 1 cap) by kernel_rfl) Salg.underlying115 rfl); simp only [Act.put, List.setIfInBounds_toArray, List.set_cons_zero, List.set_cons_succ])
  ((with_reducible apply E_run); rfl; rfl; (intro w M; go_simp; (try go_ints); (try simp only [↓IntWalk.iteOmega]); (try with_reducible rfl)); simp only [Act.put, List.setIfInBounds_toArray, List.set_cons_zero, List.set_cons_succ])
  ((with_reducible apply E_run); rfl; rfl; (intro w M; go_simp; (try go_ints); (try simp only [↓IntWalk.iteOmega]); (try with_reducible rfl)); simp only [Act.put, List.setIfInBounds_toArray, List.set_cons_zero, List.set_cons_succ])
  ((with_reducible apply E_run); rfl; rfl; (intro w M; go_simp; (try go_ints); (try simp only [↓IntWalk.iteOmega]); (try with_reducible rfl)); simp only [Act.put, List.setIfInBounds_toArray, List.set_cons_zero, List.set_cons_succ])
  ((with_reducible apply E_run); rfl; rfl; (intro w M; exact run_loadCell (M.kept.row c1 (by simp)) rfl (show (chM vz wz nilS nilS (.slice (some ⟨fb, 0, none⟩) 1 cap) rt 1 0 lim gv0 nilS pr tv)[9]? = some (.slice (some ⟨fb, 0, none⟩) 1 cap) by kernel_rfl) Salg.underlying115 rfl); simp only [Act.put, List.setIfInBounds_toArray, List.set_cons_zero, List.set_cons_succ])
  ((with_reducible apply E_run); rfl; rfl; (intro w M; go_simp; (try go_ints); (try simp only [↓IntWalk.iteOmega]); (try with_reducible rfl)); simp only [Act.put, List.setIfInBounds_toArray, List.set_cons_zero, List.set_cons_succ])
  ((with_reducible apply E_run); rfl; rfl; (intro w M; go_simp; (try go_ints); (try simp only [↓IntWalk.iteOmega]); (try with_reducible rfl)); simp only [Act.put, List.setIfInBounds_toArray, List.set_cons_zero, List.set_cons_succ])
  ((with_reducible apply E_run); rfl; rfl; (intro w M; go_simp; (try go_ints); (try simp only [↓IntWalk.iteOmega]); (try with_reducible rfl)); simp only [Act.put, List.setIfInBounds_toArray, List.set_cons_zero, List.set_cons_succ])
  ((with_reducible apply E_run (v := .agg (frS (frO g0 vv cv iu r6 r7 (wrow4 a0 a1 a2 a3)) pv gv sv mc).toArray)); rfl; rfl; (intro w M; exact run_loadX (n := 60) (M.kept.row hr (by simp)) rfl Salg.underlying142 rfl size142 (by omega) HX.out); simp only [Act.put, List.setIfInBounds_toArray, List.set_cons_zero, List.set_cons_succ])
  refine E_nil ?_
  intro w1 K1 M
  clear K1
  intro t6 w2 K1 ht6 M
  clear K1
  simp only [Act.put, List.setIfInBounds_toArray, List.set_cons_zero, List.set_cons_succ]
  refine S_seg 13 14 (by kernel_rfl) (by decide) ?_
  simp only [List.take_succ_cons, List.take_zero, List.drop_zero, List.drop_succ_cons, Nat.sub_zero, Nat.reduceSub]
  go_wp2_with ((with_reducible apply W_storeK (b := t6) (vs := (frS (frO g0 vv cv iu r6 r7 (wrow4 a0 a1 a2 a3)) pv gv sv mc).toArray)); rfl; rfl; exact M.r0; exact size142; rfl; exact H1.out; intro w3 K1 hr3; replace M := Mem.callPut (L1 := []) M (Or.inr ht6) K1 hr3; clear K1 hr3; simp only [List.nil_append] at M)
  refine S_done ?_
  go_wp2_with (first
    | ((with_reducible apply W_loadCell); rfl; exact M.r0; exact (show (frS (frO g0 vv cv iu r6 r7 (wrow4 a0 a1 a2 a3)) pv gv sv mc).toArray[4]? = some gv by kernel_rfl); exact Salg.underlying89; rfl; simp only [Act.put, List.setIfInBounds_toArray, List.set_cons_zero, List.set_cons_succ])
    | ((with_reducible apply W_loadCell); rfl; exact M.r0; exact (show (frS (frO g0 vv cv iu r6 r7 (wrow4 a0 a1 a2 a3)) pv gv sv mc).toArray[0]? = some (.int .u8 0) by kernel_rfl); exact Salg.underlying5; rfl; simp only [Act.put, List.setIfInBounds_toArray, List.set_cons_zero, List.set_cons_succ]))
  refine (creates_zero _).mono ?_
  rintro e w4 ⟨rfl, hw⟩
  replace hw := hw.symm
  subst hw
  have H6 := hid M.r0
  have h6c : t6 ∉ [c] := by simp; omega
  replace c1 := M.kept.row c1 (by simp)
  replace HWC := hid (WorldW.kept HWC.out M.kept)
  replace HC3 := hid (HC3.out.kept M.kept)
  replace HC4 := hid (HC4.out.kept M.kept)
  replace HC5 := hid (HC5.out.kept M.kept)
  replace HG2 := hid (HG2.out.kept M.kept)
  replace HOU := hid (HOU.out.kept M.kept)
  have HK : Hid (Kept [c] w w3) := M.kept.mono (by simp)
  clear M
  go_wp2_with ((with_reducible apply W_stV (b := c) (o := 10) (v := out)); rfl; rfl; exact houo; exact c1; exact size40; exact Nat.le_of_ble_eq_true (by kernel_rfl); intro w6 K1 hr1; rw [show (chM vz wz nilS nilS (.slice (some ⟨fb, 0, none⟩) 1 cap) rt 1 0 lim gv0 nilS pr tv).setIfInBounds 10 (out) = (chM vz wz nilS nilS (.slice (some ⟨fb, 0, none⟩) 1 cap) out 1 0 lim gv0 nilS pr tv) from by kernel_rfl] at hr1)
  replace HWC := hid (WorldW.keptC HWC.out K1 c1 HO.out wtype119)
  replace HC3 := hid (HC3.out.keptC K1 c1 HO.out)
  replace HC4 := hid (HC4.out.keptC K1 c1 HO.out)
  replace HC5 := hid (HC5.out.keptC K1 c1 HO.out)
  replace HG2 := hid (HG2.out.keptC K1 c1 HO.out)
  replace HOU := hid (HOU.out.keptC K1 c1 HO.out)
  replace HK : Hid (Kept [c] w w6) := HK.out.trans (K1)
  replace HO := hid (chM_nb vz wz nilS nilS (.slice (some ⟨fb, 0, none⟩) 1 cap) out 1 0 lim gv0 nilS pr tv)
  replace c1 := hr1
  clear K1 hr1
  have M := Mem.start w6 []
  refine S_region (by kernel_rfl) ?_
  refine E_stage 0 18 [0, 1, 2, 3, 4, 5, 6, 7, 8, 9, 10, 11, 12, 13, 14, 15, 16, 17] (by kernel_rfl) M.drew ?_
  clear M
  simp only [List.filterMap_cons, List.filterMap_nil, List.getElem?_cons_zero, List.getElem?_cons_succ]
  ((with_reducible apply E_run); rfl; rfl; (intro w M; go_simp; (try go_ints); (try simp only [↓IntWalk.iteOmega]); (try with_reducible rfl)); simp only [Act.put, List.setIfInBounds_toArray, List.set_cons_zero, List.set_cons_succ])
  ((with_reducible apply E_run); rfl; rfl; (intro w M; go_simp; (try go_ints); (try simp only [↓IntWalk.iteOmega]); (try with_reducible rfl)); simp only [Act.put, List.setIfInBounds_toArray, List.set_cons_zero, List.set_cons_succ])
  ((with_reducible apply E_run); rfl; rfl; (intro w M; go_simp; (try go_ints); (try simp only [↓IntWalk.iteOmega]); (try with_reducible rfl)); simp only [Act.put, List.setIfInBounds_toArray, List.set_cons_zero, List.set_cons_succ])
  ((with_reducible apply E_run); rfl; rfl; (intro w M; go_simp; (try go_ints); (try simp only [↓IntWalk.iteOmega]); (try with_reducible rfl)); simp only [Act.put, List.setIfInBounds_toArray, List.set_cons_zero, List.set_cons_succ])
  ((with_reducible apply E_run); rfl; rfl; (intro w M; exact run_loadCell (M.kept.row c1 (by simp)) rfl (show (chM vz wz nilS nilS (.slice (some ⟨fb, 0, none⟩) 1 cap) out 1 0 lim gv0 nilS pr tv)[9]? = some (.slice (some ⟨fb, 0, none⟩) 1 cap) by kernel_rfl) Salg.underlying115 rfl); simp only [Act.put, List.setIfInBounds_toArray, List.set_cons_zero, List.set_cons_succ])
  ((with_reducible apply E_run); rfl; rfl; (intro w M; go_simp; (try go_ints); (try simp only [↓IntWalk.iteOmega]); (try with_reducible rfl)); simp only [Act.put, List.setIfInBounds_toArray, List.set_cons_zero, List.set_cons_succ])
  ((with_reducible apply E_run); rfl; rfl; (intro w M; go_simp; (try go_ints); (try simp only [↓IntWalk.iteOmega]); (try with_reducible rfl)); simp only [Act.put, List.setIfInBounds_toArray, List.set_cons_zero, List.set_cons_succ])
  ((with_reducible apply E_run); rfl; rfl; (intro w M; go_simp; (try go_ints); (try simp only [↓IntWalk.iteOmega]); (try with_reducible rfl)); simp only [Act.put, List.setIfInBounds_toArray, List.set_cons_zero, List.set_cons_succ])
  ((with_reducible apply E_run); rfl; rfl; (intro w M; exact run_loadCell (M.kept.row c1 (by simp)) rfl (show (chM vz wz nilS nilS (.slice (some ⟨fb, 0, none⟩) 1 cap) out 1 0 lim gv0 nilS pr tv)[9]? = some (.slice (some ⟨fb, 0, none⟩) 1 cap) by kernel_rfl) Salg.underlying115 rfl); simp only [Act.put, List.setIfInBounds_toArray, List.set_cons_zero, List.set_cons_succ])
  ((with_reducible apply E_run); rfl; rfl; (intro w M; go_simp; (try go_ints); (try simp only [↓IntWalk.iteOmega]); (try with_reducible rfl)); simp only [Act.put, List.setIfInBounds_toArray, List.set_cons_zero, List.set_cons_succ])
  ((with_reducible apply E_run); rfl; rfl; (intro w M; go_simp; (try go_ints); (try simp only [↓IntWalk.iteOmega]); (try with_reducible rfl)); simp only [Act.put, List.setIfInBounds_toArray, List.set_cons_zero, List.set_cons_succ])
  ((with_reducible apply E_run); rfl; rfl; (intro w M; go_simp; (try go_ints); (try simp only [↓IntWalk.iteOmega]); (try with_reducible rfl)); simp only [Act.put, List.setIfInBounds_toArray, List.set_cons_zero, List.set_cons_succ])
  ((with_reducible apply E_run); rfl; rfl; (intro w M; go_simp; (try go_ints); (try simp only [↓IntWalk.iteOmega]); (try with_reducible rfl)); simp only [Act.put, List.setIfInBounds_toArray, List.set_cons_zero, List.set_cons_succ])
  ((with_reducible apply E_run); rfl; rfl; (intro w M; go_simp; (try go_ints); (try simp only [↓IntWalk.iteOmega]); (try with_reducible rfl)); simp only [Act.put, List.setIfInBounds_toArray, List.set_cons_zero, List.set_cons_succ])
  ((with_reducible apply E_run); rfl; rfl; (intro w M; exact run_loadCell (M.kept.row c1 (by simp)) rfl (show (chM vz wz nilS nilS (.slice (some ⟨fb, 0, none⟩) 1 cap) out 1 0 lim gv0 nilS pr tv)[9]? = some (.slice (some ⟨fb, 0, none⟩) 1 cap) by kernel_rfl) Salg.underlying115 rfl); simp only [Act.put, List.setIfInBounds_toArray, List.set_cons_zero, List.set_cons_succ])
  ((with_reducible apply E_run); rfl; rfl; (intro w M; go_simp; (try go_ints); (try simp only [↓IntWalk.iteOmega]); (try with_reducible rfl)); simp only [Act.put, List.setIfInBounds_toArray, List.set_cons_zero, List.set_cons_succ])
  ((with_reducible apply E_run); rfl; rfl; (intro w M; go_simp; (try go_ints); (try simp only [↓IntWalk.iteOmega]); (try with_reducible rfl)); simp only [Act.put, List.setIfInBounds_toArray, List.set_cons_zero, List.set_cons_succ])
  ((with_reducible apply E_run); rfl; rfl; (intro w M; exact run_slice3 (n := 0) rfl rfl rfl (by omega) (by omega) Salg.underlying115 ⟨60, size142⟩ (by omega)); simp only [Act.put, List.setIfInBounds_toArray, List.set_cons_zero, List.set_cons_succ])
  refine E_nil ?_
  intro w7 K M
  clear K
  have c1' := M.kept.row c1 (by simp)
  refine S_seg 18 21 (by kernel_rfl) (by decide) ?_
  simp only [List.take_succ_cons, List.take_zero, List.drop_zero, List.drop_succ_cons, Nat.sub_zero, Nat.reduceSub]
  go_wp2_with ((with_reducible apply W_stV (b := c) (o := 9) (v := .slice (some ⟨fb, 0, none⟩) 0 0)); rfl; rfl; exact rfl; exact c1'; exact size115; exact Nat.le_of_ble_eq_true (by kernel_rfl); intro w8 K1 hr1; rw [show (chM vz wz nilS nilS (.slice (some ⟨fb, 0, none⟩) 1 cap) out 1 0 lim gv0 nilS pr tv).setIfInBounds 9 (.slice (some ⟨fb, 0, none⟩) 0 0) = (chM vz wz nilS nilS (.slice (some ⟨fb, 0, none⟩) 0 0) out 1 0 lim gv0 nilS pr tv) from by kernel_rfl] at hr1)
  replace HWC := hid (WorldW.keptC (WorldW.kept HWC.out M.kept) K1 c1' HO.out wtype119)
  replace HC3 := hid ((HC3.out.kept M.kept).keptC K1 c1' HO.out)
  replace HC4 := hid ((HC4.out.kept M.kept).keptC K1 c1' HO.out)
  replace HC5 := hid ((HC5.out.kept M.kept).keptC K1 c1' HO.out)
  replace HG2 := hid ((HG2.out.kept M.kept).keptC K1 c1' HO.out)
  replace HOU := hid ((HOU.out.kept M.kept).keptC K1 c1' HO.out)
  replace HK : Hid (Kept [c] w w8) := HK.out.trans ((M.kept.mono (by simp)).trans K1)
  replace HO := hid (chM_nb vz wz nilS nilS (.slice (some ⟨fb, 0, none⟩) 0 0) out 1 0 lim gv0 nilS pr tv)
  replace c1 := hr1
  clear K1 hr1 M c1'
  have hgo := HG2.out.one
  refine S_done ?_
  go_wp2_with (first
    | ((with_reducible apply W_loadCell); rfl; exact c1; exact (show (chM vz wz nilS nilS (.slice (some ⟨fb, 0, none⟩) 0 0) out 1 0 lim gv0 nilS pr tv)[9]? = some (.slice (some ⟨fb, 0, none⟩) 0 0) by kernel_rfl); exact Salg.underlying115; rfl; simp only [Act.put, List.setIfInBounds_toArray, List.set_cons_zero, List.set_cons_succ])
    | ((with_reducible apply W_stV (b := c) (o := 9) (v := nilS)); rfl; rfl; exact rfl; exact c1; exact size115; exact Nat.le_of_ble_eq_true (by kernel_rfl); intro w9 Ka hra; rw [show (chM vz wz nilS nilS (.slice (some ⟨fb, 0, none⟩) 0 0) out 1 0 lim gv0 nilS pr tv).setIfInBounds 9 (nilS) = (chM vz wz nilS nilS (nilS) out 1 0 lim gv0 nilS pr tv) from by kernel_rfl] at hra)
    | ((with_reducible apply W_stV (b := c) (o := 11) (v := .int .u8 2)); rfl; rfl; exact rfl; exact hra; exact size5; exact Nat.le_of_ble_eq_true (by kernel_rfl); intro w10 Kb hrb; rw [show (chM vz wz nilS nilS (nilS) out 1 0 lim gv0 nilS pr tv).setIfInBounds 11 (.int .u8 2) = (chM vz wz nilS nilS (nilS) out 2 0 lim gv0 nilS pr tv) from by kernel_rfl] at hrb)
    | ((with_reducible apply W_stV (b := c) (o := 12) (v := .int .u8 0)); rfl; rfl; exact rfl; exact hrb; exact size5; exact Nat.le_of_ble_eq_true (by kernel_rfl); intro w11 Kc hrc; rw [show (chM vz wz nilS nilS (nilS) out 2 0 lim gv0 nilS pr tv).setIfInBounds 12 (.int .u8 0) = (chM vz wz nilS nilS (nilS) out 2 0 lim gv0 nilS pr tv) from by kernel_rfl] at hrc)
    | ((with_reducible apply W_stV (b := c) (o := 16) (v := gv)); rfl; rfl; exact hgo; exact hrc; exact size89; exact Nat.le_of_ble_eq_true (by kernel_rfl); intro w12 Kd hrd; rw [show (chM vz wz nilS nilS (nilS) out 2 0 lim gv0 nilS pr tv).setIfInBounds 16 (gv) = (chM vz wz nilS nilS (nilS) out 2 0 lim gv0 gv pr tv) from by kernel_rfl] at hrd))
  ((try simp only [Exit.inBlock, Exit.then]); refine bodyPost_ret (results_none rfl _ _ _) rfl ?_)
  have KK : Kept [c] w8 w12 := ((Ka.trans Kb).trans Kc).trans Kd
  exact ⟨_, rfl, ⟨vz, wz, nilS, nilS, out, lim, gv0, gv, pr, tv, hrd, WorldW.keptC HWC.out KK c1 HO.out wtype119, HC3.out.keptC KK c1 HO.out, HC4.out.keptC KK c1 HO.out, HC5.out.keptC KK c1 HO.out, HG2.out.keptC KK c1 HO.out, HOU.out.keptC KK c1 HO.out, c6⟩, HK.out.trans KK⟩

set_option maxHeartbeats 4000000 in
set_option maxRecDepth 100000 in
theorem leaveX_fail (c fb cap m G : Nat) (fs0 : Array Value) (ns : List Nat) (la la' : List (List Nat)) (ds1 ds2 : List Nat) (E : CEnv) (rt r6 r7 g0 vv cv iu a0 a1 a2 a3 mc : Value) (w : World) (hC : ChX w c E (.slice (some ⟨fb, 0, none⟩) 1 cap) rt la) (hSt : StatW w E ds1 ds2) (hF : FrameQ w fb 0 fs0 m G ns mc) (hcur : ∀ k, k < 60 → k ≠ 3 → k ≠ 4 → k ≠ 8 → k ≠ 9 → fs0[k]? = (frO g0 vv cv iu r6 r7 (wrow4 a0 a1 a2 a3))[k]?) (hsz : 60 ≤ fs0.size) (hone : ∀ u ∈ (frO g0 vv cv iu r6 r7 (wrow4 a0 a1 a2 a3)), u.oneCell' = true) (o4 : mc.oneCell' = true) (hcap : 1 ≤ cap) (hSv : WorldS w a0 a1 a2 a3 la' none none 0 ds1 ds2) :
    Calls Salg.prog 112 #[.pointer (some ⟨c, 0, none⟩), .int .u8 8, .slice none 0 0] w fun e w' => ∃ (r : Value), e = .returned r ∧ EndS w' c 8 0 [] la' none none 0 ds1 ds2 ∧ Kept [c] w w' := by
  have M := Mem.start w []
  obtain ⟨fs, pv, gv, sv, xs, hr, h0, h2, h3, h4, h5, h6, h7, h8, h9, ha⟩ := hF
  obtain ⟨wz, c1, c2⟩ := hC
  have HWC0 := hid (hSt.world c2)
  have HC3 := hid hSt.lim
  have HC4 := hid hSt.pr
  have HC5 := hid hSt.tv
  have c6 := hSt.gv
  clear hSt c2
  obtain ⟨vz, lim, gv0, pr, tv, nv, bv, cu, nv2, bv2, cu2, nv3, bv3⟩ := E
  simp only at c1 HWC0 HC3 HC4 HC5 c6
  have hfc : fb ∉ [c] := row_ne c1 hr (by rintro h; cases h)
  have HX : Hid (fs.extract 0 (0 + 60) = (frS (frO g0 vv cv iu r6 r7 (wrow4 a0 a1 a2 a3)) pv gv sv mc).toArray) := frame_ext (by kernel_rfl) (by omega) (frS_get (f := fun k => fs[0 + k]?) (by kernel_rfl) (fun k k1 k3 k4 k8 k9 => (h2 (0 + k) (by omega) (by omega) (by omega) (by omega)).trans (by rw [Nat.zero_add]; exact hcur k k1 k3 k4 k8 k9)) h3 h5 h7 ha)
  have H1 := hid (frS_one hone h4.one h6.one h8.one o4)
  have HO := hid (chM_nb vz wz nilS nilS (.slice (some ⟨fb, 0, none⟩) 1 cap) rt 1 0 lim gv0 nilS pr tv)
  replace c1 : w.heap[c]? = some (.cells (chM vz wz nilS nilS (.slice (some ⟨fb, 0, none⟩) 1 cap) rt 1 0 lim gv0 nilS pr tv) 119 (0, 0)) := c1
  have HWC := hid hSv
  obtain ⟨y0, y1, y2, y3⟩ := WorldW.one hSv
  have HONE : Hid (∀ u ∈ (wrow4 a0 a1 a2 a3).toArray.toList, u.oneCell' = true) := by
    intro u hu
    simp only [wrow4, List.mem_cons, List.not_mem_nil, or_false] at hu
    rcases hu with rfl | rfl | rfl | rfl | rfl | rfl | rfl | rfl
    · exact y0
    · exact y1
    · exact y2
    · exact y3
    all_goals rfl
  clear hSv y0 y1 y2 y3
  have hcl := lt_of_row c1
  have z60 : 60 ≤ fs.size := by omega
  clear h2 h3 h4 h5 h6 h7 h8 h9 ha hcur h0 hone HWC0
  go_enter Salg.func112, Salg.ntmps112
  go_wp2_with fail
  refine S_region (by kernel_rfl) ?_
  refine E_float 0 13 [0, 1, 2, 3, 4, 5, 6, 7, 8, 9, 10, 11] 12 6 _ (by kernel_rfl) ⟨⟨_, _, _, _, _, rfl, zero142, rfl⟩⟩ (by simp) M.drew ?_
  clear M
  simp only [List.filterMap_cons, List.filterMap_nil, List.getElem?_cons_zero, List.getElem?_cons_succ]
  ((with_reducible apply E_run); rfl; rfl; (intro w M; go_simp; (try go_ints); (try simp only [↓IntWalk.iteOmega]); (try with_reducible rfl)); simp only [Act.put, List.setIfInBounds_toArray, List.set_cons_zero, List.set_cons_succ])
  ((with_reducible apply E_run); rfl; rfl; (intro w M; go_simp; (try go_ints); (try simp only [↓IntWalk.iteOmega]); (try with_reducible rfl)); simp only [Act.put, List.setIfInBounds_toArray, List.set_cons_zero, List.set_cons_succ])
  ((with_reducible apply E_run); rfl; rfl; (intro w M; go_simp; (try go_ints); (try simp only [↓IntWalk.iteOmega]); (try with_reducible rfl)); simp only [Act.put, List.setIfInBounds_toArray, List.set_cons_zero, List.set_cons_succ])
  ((with_reducible apply E_run); rfl; rfl; (intro w M; exact run_loadCell (M.kept.row c1 (by simp)) rfl (show (chM vz wz nilS nilS (.slice (some ⟨fb, 0, none⟩) 1 cap) rt 1 0 lim gv0 nilS pr tv)[9]? = some (.slice (some ⟨fb, 0, none⟩) 1 cap) by kernel_rfl) Salg.underlying115 rfl); simp only [Act.put, List.setIfInBounds_toArray, List.set_cons_zero, List.set_cons_succ])
  ((with_reducible apply E_run); rfl; rfl; (intro w M; go_simp; (try go_ints); (try simp only [↓IntWalk.iteOmega]); (try with_reducible rfl)); simp only [Act.put, List.setIfInBounds_toArray, List.set_cons_zero, List.set_cons_succ])
  ((with_reducible apply E_run); rfl; rfl; (intro w M; go_simp; (try go_ints); (try simp only [↓IntWalk.iteOmega]); (try with_reducible rfl)); simp only [Act.put, List.setIfInBounds_toArray, List.set_cons_zero, List.set_cons_succ])
  ((with_reducible apply E_run); rfl; rfl; (intro w M; go_simp; (try go_ints); (try simp only [↓IntWalk.iteOmega]); (try with_reducible rfl)); simp only [Act.put, List.setIfInBounds_toArray, List.set_cons_zero, List.set_cons_succ])
  ((with_reducible apply E_run); rfl; rfl; (intro w M; exact run_loadCell (M.kept.row c1 (by simp)) rfl (show (chM vz wz nilS nilS (.slice (some ⟨fb, 0, none⟩) 1 cap) rt 1 0 lim gv0 nilS pr tv)[9]? = some (.slice (some ⟨fb, 0, none⟩) 1 cap) by kernel_rfl) Salg.underlying115 rfl); simp only [Act.put, List.setIfInBounds_toArray, List.set_cons_zero, List.set_cons_succ])
  ((with_reducible apply E_run); rfl; rfl; (intro w M; go_simp; (try go_ints); (try simp only [↓IntWalk.iteOmega]); (try with_reducible rfl)); simp only [Act.put, List.setIfInBounds_toArray, List.set_cons_zero, List.set_cons_succ])
  ((with_reducible apply E_run); rfl; rfl; (intro w M; go_simp; (try go_ints); (try simp only [↓IntWalk.iteOmega]); (try with_reducible rfl)); simp only [Act.put, List.setIfInBounds_toArray, List.set_cons_zero, List.set_cons_succ])
  ((with_reducible apply E_run); rfl; rfl; (intro w M; go_simp; (try go_ints); (try simp only [↓IntWalk.iteOmega]); (try with_reducible rfl)); simp only [Act.put, List.setIfInBounds_toArray, List.set_cons_zero, List.set_cons_succ])
  ((with_reducible apply E_run (v := .agg (frS (frO g0 vv cv iu r6 r7 (wrow4 a0 a1 a2 a3)) pv gv sv mc).toArray)); rfl; rfl; (intro w M; exact run_loadX (n := 60) (M.kept.row hr (by simp)) rfl Salg.underlying142 rfl size142 (by omega) HX.out); simp only [Act.put, List.setIfInBounds_toArray, List.set_cons_zero, List.set_cons_succ])
  refine E_nil ?_
  intro w1 K1 M
  clear K1
  intro t6 w2 K1 ht6 M
  clear K1
  simp only [Act.put, List.setIfInBounds_toArray, List.set_cons_zero, List.set_cons_succ]
  refine S_seg 13 14 (by kernel_rfl) (by decide) ?_
  simp only [List.take_succ_cons, List.take_zero, List.drop_zero, List.drop_succ_cons, Nat.sub_zero, Nat.reduceSub]
  go_wp2_with ((with_reducible apply W_storeK (b := t6) (vs := (frS (frO g0 vv cv iu r6 r7 (wrow4 a0 a1 a2 a3)) pv gv sv mc).toArray)); rfl; rfl; exact M.r0; exact size142; rfl; exact H1.out; intro w3 K1 hr3; replace M := Mem.callPut (L1 := []) M (Or.inr ht6) K1 hr3; clear K1 hr3; simp only [List.nil_append] at M)
  refine S_done ?_
  go_wp2_with (first
    | ((with_reducible apply W_loadCell); rfl; exact M.r0; exact (show (frS (frO g0 vv cv iu r6 r7 (wrow4 a0 a1 a2 a3)) pv gv sv mc).toArray[4]? = some gv by kernel_rfl); exact Salg.underlying89; rfl; simp only [Act.put, List.setIfInBounds_toArray, List.set_cons_zero, List.set_cons_succ])
    | ((with_reducible apply W_loadCell); rfl; exact M.r0; exact (show (frS (frO g0 vv cv iu r6 r7 (wrow4 a0 a1 a2 a3)) pv gv sv mc).toArray[0]? = some (.int .u8 0) by kernel_rfl); exact Salg.underlying5; rfl; simp only [Act.put, List.setIfInBounds_toArray, List.set_cons_zero, List.set_cons_succ]))
  refine (creates_zero _).mono ?_
  rintro e w4 ⟨rfl, hw⟩
  replace hw := hw.symm
  subst hw
  have H6 := hid M.r0
  have h6c : t6 ∉ [c] := by simp; omega
  replace c1 := M.kept.row c1 (by simp)
  replace HWC := hid (WorldW.kept HWC.out M.kept)
  replace HC3 := hid (HC3.out.kept M.kept)
  replace HC4 := hid (HC4.out.kept M.kept)
  replace HC5 := hid (HC5.out.kept M.kept)
  have HK : Hid (Kept [c] w w3) := M.kept.mono (by simp)
  clear M
  go_wp2_with (first
    | ((with_reducible apply W_loadX (n := 8) (vs := (wrow4 a0 a1 a2 a3).toArray)); rfl; exact H6.out; exact Salg.underlying113; rfl; exact size113; exact Nat.le_of_ble_eq_true (by kernel_rfl); exact (show (frS (frO g0 vv cv iu r6 r7 (wrow4 a0 a1 a2 a3)) pv gv sv mc).toArray.extract 52 (52 + 8) = _ by kernel_rfl); simp only [Act.put, List.setIfInBounds_toArray, List.set_cons_zero, List.set_cons_succ])
    | ((with_reducible apply W_stP (b := c) (o := 0) (n := 8) (v := .agg (wrow4 a0 a1 a2 a3).toArray) (rs := (chM a0 a1 a2 a3 (.slice (some ⟨fb, 0, none⟩) 1 cap) rt 1 0 lim gv0 nilS pr tv))); rfl; rfl; exact c1; exact size113; rfl; exact HONE.out; exact Nat.le_of_ble_eq_true (by kernel_rfl); kernel_rfl; intro w5 K0 hr0)
    | ((with_reducible apply W_stV (b := c) (o := 10) (v := nilS)); rfl; rfl; exact rfl; exact hr0; exact size40; exact Nat.le_of_ble_eq_true (by kernel_rfl); intro w6 K1 hr1; rw [show (chM a0 a1 a2 a3 (.slice (some ⟨fb, 0, none⟩) 1 cap) rt 1 0 lim gv0 nilS pr tv).setIfInBounds 10 (nilS) = (chM a0 a1 a2 a3 (.slice (some ⟨fb, 0, none⟩) 1 cap) nilS 1 0 lim gv0 nilS pr tv) from by kernel_rfl] at hr1))
  replace HWC := hid (WorldW.keptC HWC.out K0 c1 HO.out wtype119)
  replace HC3 := hid (HC3.out.keptC K0 c1 HO.out)
  replace HC4 := hid (HC4.out.keptC K0 c1 HO.out)
  replace HC5 := hid (HC5.out.keptC K0 c1 HO.out)
  replace HK : Hid (Kept [c] w w5) := HK.out.trans (K0)
  replace HO := hid (chM_nb a0 a1 a2 a3 (.slice (some ⟨fb, 0, none⟩) 1 cap) rt 1 0 lim gv0 nilS pr tv)
  replace c1 := hr0
  clear K0 hr0
  replace HWC := hid (WorldW.keptC HWC.out K1 c1 HO.out wtype119)
  replace HC3 := hid (HC3.out.keptC K1 c1 HO.out)
  replace HC4 := hid (HC4.out.keptC K1 c1 HO.out)
  replace HC5 := hid (HC5.out.keptC K1 c1 HO.out)
  replace HK : Hid (Kept [c] w w6) := HK.out.trans (K1)
  replace HO := hid (chM_nb a0 a1 a2 a3 (.slice (some ⟨fb, 0, none⟩) 1 cap) nilS 1 0 lim gv0 nilS pr tv)
  replace c1 := hr1
  clear K1 hr1
  have M := Mem.start w6 []
  refine S_region (by kernel_rfl) ?_
  refine E_stage 0 18 [0, 1, 2, 3, 4, 5, 6, 7, 8, 9, 10, 11, 12, 13, 14, 15, 16, 17] (by kernel_rfl) M.drew ?_
  clear M
  simp only [List.filterMap_cons, List.filterMap_nil, List.getElem?_cons_zero, List.getElem?_cons_succ]
  ((with_reducible apply E_run); rfl; rfl; (intro w M; go_simp; (try go_ints); (try simp only [↓IntWalk.iteOmega]); (try with_reducible rfl)); simp only [Act.put, List.setIfInBounds_toArray, List.set_cons_zero, List.set_cons_succ])
  ((with_reducible apply E_run); rfl; rfl; (intro w M; go_simp; (try go_ints); (try simp only [↓IntWalk.iteOmega]); (try with_reducible rfl)); simp only [Act.put, List.setIfInBounds_toArray, List.set_cons_zero, List.set_cons_succ])
  ((with_reducible apply E_run); rfl; rfl; (intro w M; go_simp; (try go_ints); (try simp only [↓IntWalk.iteOmega]); (try with_reducible rfl)); simp only [Act.put, List.setIfInBounds_toArray, List.set_cons_zero, List.set_cons_succ])
  ((with_reducible apply E_run); rfl; rfl; (intro w M; go_simp; (try go_ints); (try simp only [↓IntWalk.iteOmega]); (try with_reducible rfl)); simp only [Act.put, List.setIfInBounds_toArray, List.set_cons_zero, List.set_cons_succ])
  ((with_reducible apply E_run); rfl; rfl; (intro w M; exact run_loadCell (M.kept.row c1 (by simp)) rfl (show (chM a0 a1 a2 a3 (.slice (some ⟨fb, 0, none⟩) 1 cap) nilS 1 0 lim gv0 nilS pr tv)[9]? = some (.slice (some ⟨fb, 0, none⟩) 1 cap) by kernel_rfl) Salg.underlying115 rfl); simp only [Act.put, List.setIfInBounds_toArray, List.set_cons_zero, List.set_cons_succ])
  ((with_reducible apply E_run); rfl; rfl; (intro w M; go_simp; (try go_ints); (try simp only [↓IntWalk.iteOmega]); (try with_reducible rfl)); simp only [Act.put, List.setIfInBounds_toArray, List.set_cons_zero, List.set_cons_succ])
  ((with_reducible apply E_run); rfl; rfl; (intro w M; go_simp; (try go_ints); (try simp only [↓IntWalk.iteOmega]); (try with_reducible rfl)); simp only [Act.put, List.setIfInBounds_toArray, List.set_cons_zero, List.set_cons_succ])
  ((with_reducible apply E_run); rfl; rfl; (intro w M; go_simp; (try go_ints); (try simp only [↓IntWalk.iteOmega]); (try with_reducible rfl)); simp only [Act.put, List.setIfInBounds_toArray, List.set_cons_zero, List.set_cons_succ])
  ((with_reducible apply E_run); rfl; rfl; (intro w M; exact run_loadCell (M.kept.row c1 (by simp)) rfl (show (chM a0 a1 a2 a3 (.slice (some ⟨fb, 0, none⟩) 1 cap) nilS 1 0 lim gv0 nilS pr tv)[9]? = some (.slice (some ⟨fb, 0, none⟩) 1 cap) by kernel_rfl) Salg.underlying115 rfl); simp only [Act.put, List.setIfInBounds_toArray, List.set_cons_zero, List.set_cons_succ])
  ((with_reducible apply E_run); rfl; rfl; (intro w M; go_simp; (try go_ints); (try simp only [↓IntWalk.iteOmega]); (try with_reducible rfl)); simp only [Act.put, List.setIfInBounds_toArray, List.set_cons_zero, List.set_cons_succ])
  ((with_reducible apply E_run); rfl; rfl; (intro w M; go_simp; (try go_ints); (try simp only [↓IntWalk.iteOmega]); (try with_reducible rfl)); simp only [Act.put, List.setIfInBounds_toArray, List.set_cons_zero, List.set_cons_succ])
  ((with_reducible apply E_run); rfl; rfl; (intro w M; go_simp; (try go_ints); (try simp only [↓IntWalk.iteOmega]); (try with_reducible rfl)); simp only [Act.put, List.setIfInBounds_toArray, List.set_cons_zero, List.set_cons_succ])
  ((with_reducible apply E_run); rfl; rfl; (intro w M; go_simp; (try go_ints); (try simp only [↓IntWalk.iteOmega]); (try with_reducible rfl)); simp only [Act.put, List.setIfInBounds_toArray, List.set_cons_zero, List.set_cons_succ])
  ((with_reducible apply E_run); rfl; rfl; (intro w M; go_simp; (try go_ints); (try simp only [↓IntWalk.iteOmega]); (try with_reducible rfl)); simp only [Act.put, List.setIfInBounds_toArray, List.set_cons_zero, List.set_cons_succ])
  ((with_reducible apply E_run); rfl; rfl; (intro w M; exact run_loadCell (M.kept.row c1 (by simp)) rfl (show (chM a0 a1 a2 a3 (.slice (some ⟨fb, 0, none⟩) 1 cap) nilS 1 0 lim gv0 nilS pr tv)[9]? = some (.slice (some ⟨fb, 0, none⟩) 1 cap) by kernel_rfl) Salg.underlying115 rfl); simp only [Act.put, List.setIfInBounds_toArray, List.set_cons_zero, List.set_cons_succ])
  ((with_reducible apply E_run); rfl; rfl; (intro w M; go_simp; (try go_ints); (try simp only [↓IntWalk.iteOmega]); (try with_reducible rfl)); simp only [Act.put, List.setIfInBounds_toArray, List.set_cons_zero, List.set_cons_succ])
  ((with_reducible apply E_run); rfl; rfl; (intro w M; go_simp; (try go_ints); (try simp only [↓IntWalk.iteOmega]); (try with_reducible rfl)); simp only [Act.put, List.setIfInBounds_toArray, List.set_cons_zero, List.set_cons_succ])
  ((with_reducible apply E_run); rfl; rfl; (intro w M; exact run_slice3 (n := 0) rfl rfl rfl (by omega) (by omega) Salg.underlying115 ⟨60, size142⟩ (by omega)); simp only [Act.put, List.setIfInBounds_toArray, List.set_cons_zero, List.set_cons_succ])
  refine E_nil ?_
  intro w7 K M
  clear K
  have c1' := M.kept.row c1 (by simp)
  refine S_seg 18 21 (by kernel_rfl) (by decide) ?_
  simp only [List.take_succ_cons, List.take_zero, List.drop_zero, List.drop_succ_cons, Nat.sub_zero, Nat.reduceSub]
  go_wp2_with ((with_reducible apply W_stV (b := c) (o := 9) (v := .slice (some ⟨fb, 0, none⟩) 0 0)); rfl; rfl; exact rfl; exact c1'; exact size115; exact Nat.le_of_ble_eq_true (by kernel_rfl); intro w8 K1 hr1; rw [show (chM a0 a1 a2 a3 (.slice (some ⟨fb, 0, none⟩) 1 cap) nilS 1 0 lim gv0 nilS pr tv).setIfInBounds 9 (.slice (some ⟨fb, 0, none⟩) 0 0) = (chM a0 a1 a2 a3 (.slice (some ⟨fb, 0, none⟩) 0 0) nilS 1 0 lim gv0 nilS pr tv) from by kernel_rfl] at hr1)
  replace HWC := hid (WorldW.keptC (WorldW.kept HWC.out M.kept) K1 c1' HO.out wtype119)
  replace HC3 := hid ((HC3.out.kept M.kept).keptC K1 c1' HO.out)
  replace HC4 := hid ((HC4.out.kept M.kept).keptC K1 c1' HO.out)
  replace HC5 := hid ((HC5.out.kept M.kept).keptC K1 c1' HO.out)
  replace HK : Hid (Kept [c] w w8) := HK.out.trans ((M.kept.mono (by simp)).trans K1)
  replace HO := hid (chM_nb a0 a1 a2 a3 (.slice (some ⟨fb, 0, none⟩) 0 0) nilS 1 0 lim gv0 nilS pr tv)
  replace c1 := hr1
  clear K1 hr1 M c1'
  refine S_done ?_
  go_wp2_with (first
    | ((with_reducible apply W_loadCell); rfl; exact c1; exact (show (chM a0 a1 a2 a3 (.slice (some ⟨fb, 0, none⟩) 0 0) nilS 1 0 lim gv0 nilS pr tv)[9]? = some (.slice (some ⟨fb, 0, none⟩) 0 0) by kernel_rfl); exact Salg.underlying115; rfl; simp only [Act.put, List.setIfInBounds_toArray, List.set_cons_zero, List.set_cons_succ])
    | ((with_reducible apply W_stV (b := c) (o := 9) (v := nilS)); rfl; rfl; exact rfl; exact c1; exact size115; exact Nat.le_of_ble_eq_true (by kernel_rfl); intro w9 Ka hra; rw [show (chM a0 a1 a2 a3 (.slice (some ⟨fb, 0, none⟩) 0 0) nilS 1 0 lim gv0 nilS pr tv).setIfInBounds 9 (nilS) = (chM a0 a1 a2 a3 (nilS) nilS 1 0 lim gv0 nilS pr tv) from by kernel_rfl] at hra)
    | ((with_reducible apply W_stV (b := c) (o := 11) (v := .int .u8 2)); rfl; rfl; exact rfl; exact hra; exact size5; exact Nat.le_of_ble_eq_true (by kernel_rfl); intro w10 Kb hrb; rw [show (chM a0 a1 a2 a3 (nilS) nilS 1 0 lim gv0 nilS pr tv).setIfInBounds 11 (.int .u8 2) = (chM a0 a1 a2 a3 (nilS) nilS 2 0 lim gv0 nilS pr tv) from by kernel_rfl] at hrb)
    | ((with_reducible apply W_stV (b := c) (o := 12) (v := .int .u8 8)); rfl; rfl; exact rfl; exact hrb; exact size5; exact Nat.le_of_ble_eq_true (by kernel_rfl); intro w11 Kc hrc; rw [show (chM a0 a1 a2 a3 (nilS) nilS 2 0 lim gv0 nilS pr tv).setIfInBounds 12 (.int .u8 8) = (chM a0 a1 a2 a3 (nilS) nilS 2 8 lim gv0 nilS pr tv) from by kernel_rfl] at hrc)
    | ((with_reducible apply W_stV (b := c) (o := 16) (v := nilS)); rfl; rfl; exact rfl; exact hrc; exact size89; exact Nat.le_of_ble_eq_true (by kernel_rfl); intro w12 Kd hrd; rw [show (chM a0 a1 a2 a3 (nilS) nilS 2 8 lim gv0 nilS pr tv).setIfInBounds 16 (nilS) = (chM a0 a1 a2 a3 (nilS) nilS 2 8 lim gv0 nilS pr tv) from by kernel_rfl] at hrd))
  ((try simp only [Exit.inBlock, Exit.then]); refine bodyPost_ret (results_none rfl _ _ _) rfl ?_)
  have KK : Kept [c] w8 w12 := ((Ka.trans Kb).trans Kc).trans Kd
  exact ⟨_, rfl, ⟨a0, a1, a2, a3, nilS, lim, gv0, nilS, pr, tv, hrd, WorldW.keptC HWC.out KK c1 HO.out wtype119, HC3.out.keptC KK c1 HO.out, HC4.out.keptC KK c1 HO.out, HC5.out.keptC KK c1 HO.out, nil_num _, NatV.nil _, c6⟩, HK.out.trans KK⟩
end Go.Proofs.YgcsalGreat

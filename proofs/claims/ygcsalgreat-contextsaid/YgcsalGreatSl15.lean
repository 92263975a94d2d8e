/-
  The walk of (*yp.Chain).Begin at the stage's call, three accounts.
-/
import Derived.Test.YgcsalGreatSl14
import Derived.Test.YgcsalGreatMv33
set_option linter.unusedSimpArgs false
set_option linter.unusedVariables false
namespace Go.Own
theorem put3_S0 (nv bv cu sl nvb bvb cub nv2 bv2 nn : Value) : acPut ((acFind (l3 nv bv cu sl nvb bvb cub nv2 bv2) (ad 240)).put 0 nn) false (l3 nv bv cu sl nvb bvb cub nv2 bv2) = l3 nv bv cu sl nvb bvb cub nn bv2 := by kernel_rfl
theorem put3_S1 (nv bv cu sl nvb bvb cub nv2 bv2 bb : Value) : acPut ((acFind (l3 nv bv cu sl nvb bvb cub nv2 bv2) (ad 240)).put 1 bb) false (l3 nv bv cu sl nvb bvb cub nv2 bv2) = l3 nv bv cu sl nvb bvb cub nv2 bb := by kernel_rfl
end Go.Own
namespace Go.Proofs.YgcsalGreat
open Go.RowKit Go.Own
theorem setNonce_S (c : Nat) (cs : Array Value) (va nn nv bv cu sl nvb bvb cub nv2 bv2 : Value) (w : World) (hr : w.heap[c]? = some (.cells cs 119 (0, 0))) (h0 : cs[0]? = some va) (hv : AcsV w va (l3 nv bv cu sl nvb bvb cub nv2 bv2)) (hN : NumV w nn 1) :
    Calls Salg.prog 91 #[.pointer (some ⟨c, 0, none⟩), A8 (ad 240), nn] w fun e w' => ∃ r v', e = .returned r ∧ Kept [c] w w' ∧ w'.heap[c]? = some (.cells (cs.setIfInBounds 0 v') 119 (0, 0)) ∧ AcsV w' v' (l3 nv bv cu sl nvb bvb cub nn bv2) := by
  have := setNonce_any c 119 cs va nn 1 _ (ad 240) w hr h0 hv rfl (ad_ok 240 (by decide)).hs hN (by decide) (by simp [l3]) (by decide)
  rw [put3_S0] at this
  exact this
theorem setBalance_S (c : Nat) (cs : Array Value) (va nn nv bv cu sl nvb bvb cub nv2 bv2 : Value) (B : Nat) (w : World) (hr : w.heap[c]? = some (.cells cs 119 (0, 0))) (h0 : cs[0]? = some va) (hv : AcsV w va (l3 nv bv cu sl nvb bvb cub nv2 bv2)) (hn2 : NumV w nv2 1) (hN : NumV w nn B) :
    Calls Salg.prog 92 #[.pointer (some ⟨c, 0, none⟩), A8 (ad 240), nn] w fun e w' => ∃ r v', e = .returned r ∧ Kept [c] w w' ∧ w'.heap[c]? = some (.cells (cs.setIfInBounds 0 v') 119 (0, 0)) ∧ AcsV w' v' (l3 nv bv cu sl nvb bvb cub nv2 nn) := by
  have := setBalance_any c 119 cs va nn B _ (ad 240) w hr h0 hv rfl (ad_ok 240 (by decide)).hs hN nv2 1 (by rw [find3_240]; rfl) hn2 (by decide) (by simp [l3]) (by decide)
  rw [put3_S1] at this
  exact this

set_option maxHeartbeats 4000000 in
set_option maxRecDepth 100000 in
theorem begin3_ok (c : Nat) (va tv nv bv cu nvb bvb cub nv2 bv2 : Value) (ds dsb : List Nat) (w : World) (hc : w.heap[c]? = some (.cells (ch0 va tv) 119 (0, 0))) (hv : AcsV w va (l3 nv bv cu nilS nvb bvb cub nv2 bv2)) (hnv : NumV w nv 1) (hbv : NumV w bv 0) (hcu : NatV w cu ds) (hnb : NumV w nvb 1) (hbb : NumV w bvb 0) (hcb : NatV w cub dsb) (hn2 : NumV w nv2 0) (hb2 : NumV w bv2 340282366920938463463374607431768211456) :
    Calls Salg.prog 16 #[.pointer (some ⟨c, 0, none⟩), .agg (txP nilS).toArray] w fun e w' => ∃ (fb cap : Nat) (cur : Array Value) (vz wz nn bb lim pr gv vv cu2 a0 a1 a2 a3 : Value), e = .returned (.int .u8 0) ∧ w'.heap[c]? = some (.cells (chL [vz, wz, nilS, nilS, nilS, nilS, nilS, nilS, nilS, .slice (some ⟨fb, 0, none⟩) 1 cap, nilS, .int .u8 1, .int .u8 0, .int .u8 1, lim, gv, nilS, pr, tv] (ad 240) z20).toArray 119 (0, 0)) ∧ w'.heap[fb]? = some (.cells cur 142 (0, 0)) ∧ FrRow cur cap (frL gv vv cu2 nilS (wrow4 a0 a1 a2 a3)) ∧ AcsV w' vz (l3 nv bv cu nilS nvb bvb cub nn bb) ∧ AdsV w' wz la5 ∧ NumV w' nn 1 ∧ NumV w' bb 340282366920938463463374607431768211456 ∧ NumV w' lim 200000 ∧ NumV w' pr 0 ∧ NumV w' gv 179000 ∧ NumV w' vv 0 ∧ NatV w' cu2 ds ∧ w.heap.size ≤ fb ∧ Kept [c] w w' := by
  have M := Mem.start w []
  have HNV := hid hnv
  have HBV := hid hbv
  have HCU := hid hcu
  have HNB := hid hnb
  have HBB0 := hid hbb
  have HCB := hid hcb
  have HN2 := hid hn2
  have HB2 := hid hb2
  obtain ⟨g, cap0, cur0, rfl, _⟩ := hv.three
  have HAC := hid hv
  clear hv hnv hbv hcu hnb hbb hcb hn2 hb2
  have hcl : c < w.heap.size := lt_of_row hc
  go_enter Salg.func16, Salg.ntmps16
  go_wp2_with (first
    | ((with_reducible apply L_box M); rfl; clear M; intro tb w1 htb M; simp only [Act.put, List.setIfInBounds_toArray, List.set_cons_zero, List.set_cons_succ])
    | ((with_reducible apply W_loadAll); rfl; exact M.r0; exact Salg.underlying49; rfl; exact size49; simp only [Act.put, List.setIfInBounds_toArray, List.set_cons_zero, List.set_cons_succ]))
  refine (verdict_ok3 c _ tv nv bv cu nilS nvb bvb cub nv2 bv2 _ (M.kept.row hc (by simp)) (HAC.out.kept M.kept) (HN2.out.kept M.kept) (HB2.out.kept M.kept)).mono ?_
  rintro e w2 ⟨rfl, K⟩
  replace M := M.call K
  clear K
  go_wp2_with fail
  refine S_region (by kernel_rfl) ?_
  refine E_float 0 7 [0, 1, 2, 3, 4, 5] 6 7 _ (by kernel_rfl) ⟨⟨_, _, _, _, _, rfl, zero128, rfl⟩⟩ (by simp) M.drew ?_
  clear M
  simp only [List.filterMap_cons, List.filterMap_nil, List.getElem?_cons_zero, List.getElem?_cons_succ]
  ((with_reducible apply E_run); rfl; rfl; (intro w M; go_simp; (try go_ints); (try simp only [↓IntWalk.iteOmega]); (try with_reducible rfl)); simp only [Act.put, List.setIfInBounds_toArray, List.set_cons_zero, List.set_cons_succ])
  ((with_reducible apply E_run); rfl; rfl; (intro w M; go_simp; (try go_ints); (try simp only [↓IntWalk.iteOmega]); (try with_reducible rfl)); simp only [Act.put, List.setIfInBounds_toArray, List.set_cons_zero, List.set_cons_succ])
  ((with_reducible apply E_run); rfl; rfl; (intro w M; go_simp; (try go_ints); (try simp only [↓IntWalk.iteOmega]); (try with_reducible rfl)); simp only [Act.put, List.setIfInBounds_toArray, List.set_cons_zero, List.set_cons_succ])
  ((with_reducible apply E_run); rfl; rfl; (intro w M; go_simp; (try go_ints); (try simp only [↓IntWalk.iteOmega]); (try with_reducible rfl)); simp only [Act.put, List.setIfInBounds_toArray, List.set_cons_zero, List.set_cons_succ])
  ((with_reducible apply E_run (v := .agg ((ad 240).map n8).toArray)); rfl; rfl; (intro w M; exact run_loadX (n := 20) M.r0 rfl Salg.underlying45 rfl size45 (Nat.le_of_ble_eq_true (by kernel_rfl)) (show ((txP nilS).toArray).extract 0 (0 + 20) = _ by kernel_rfl)); simp only [Act.put, List.setIfInBounds_toArray, List.set_cons_zero, List.set_cons_succ])
  refine E_call rfl Salg.func85 (by kernel_rfl) (by kernel_rfl) (args := [.pointer (some ⟨c, 0, none⟩), A8 (ad 240)]) rfl ?_
  intro w1 K M
  clear K
  refine (account_S c 119 _ _ nv bv cu nilS nvb bvb cub nv2 bv2 _ (M.kept.row hc (by simp)) (ch0_0 _ _) (HAC.out.kept M.kept)).mono ?_
  rintro e w3 ⟨rfl, K⟩
  replace M := M.call K
  refine ⟨_, rfl, K.mono (by simp), M, ?_⟩
  clear K
  simp only [Act.put, List.setIfInBounds_toArray, List.set_cons_zero, List.set_cons_succ]
  refine E_nil ?_
  intro w4 K M
  clear K
  intro t7 w5 K ht7 M
  clear K
  simp only [Act.put, List.setIfInBounds_toArray, List.set_cons_zero, List.set_cons_succ]
  refine S_seg 7 8 (by kernel_rfl) (by decide) ?_
  simp only [List.take_succ_cons, List.take_zero, List.drop_zero, List.drop_succ_cons, Nat.sub_zero, Nat.reduceSub]
  have HONE := hid (oneT (ac_one HN2.out.one HB2.out.one (cu := nilS) rfl).2)
  go_wp2_with ((with_reducible apply W_storeK (b := t7) (vs := (acB nv2 bv2).cells.toArray)); rfl; rfl; exact M.r0; exact size128; rfl; exact HONE.out; intro w6 K hr3; replace M := Mem.callPut (L1 := []) M (Or.inr ht7) K hr3; clear K hr3; simp only [List.nil_append] at M)
  refine S_done ?_
  replace HAC := hid (HAC.out.kept M.kept)
  replace HNV := hid (HNV.out.kept M.kept)
  replace HBV := hid (HBV.out.kept M.kept)
  replace HCU := hid (HCU.out.kept M.kept)
  replace HNB := hid (HNB.out.kept M.kept)
  replace HBB0 := hid (HBB0.out.kept M.kept)
  replace HCB := hid (HCB.out.kept M.kept)
  replace HN2 := hid (HN2.out.kept M.kept)
  replace HB2 := hid (HB2.out.kept M.kept)
  have HK0 := hid M.kept
  replace hc := M.kept.row hc (by simp)
  have hct7 : c ≠ t7 := by omega
  have hctb : c ≠ tb := by omega
  have hcw := Nat.lt_of_lt_of_le hcl M.kept.size
  replace M := M.anew []
  go_wp2_with (first
    | ((with_reducible apply W_loadX (n := 20) (vs := ((ad 1).map n8).toArray)); rfl; exact M.r1; exact Salg.underlying45; rfl; exact size45; exact Nat.le_of_ble_eq_true (by kernel_rfl); exact (show ((txP nilS).toArray).extract 20 (20 + 20) = _ by kernel_rfl); simp only [Act.put, List.setIfInBounds_toArray, List.set_cons_zero, List.set_cons_succ])
    | ((with_reducible apply L_allocA (d := 8) M); exact zero45; clear M; intro t8 w7 ht8 M; simp only [Act.put, List.setIfInBounds_toArray, List.set_cons_zero, List.set_cons_succ])
    | ((with_reducible apply W_storeK (b := t8) (vs := ((ad 1).map n8).toArray)); rfl; rfl; exact M.r0; exact size45; rfl; exact oneL rfl; intro w8 K hr3; replace M := Mem.callPut (L1 := []) M (Or.inr ht8) K hr3; clear K hr3; simp only [List.nil_append] at M; replace HAC := hid (HAC.out.kept M.kept); replace HNV := hid (HNV.out.kept M.kept); replace HBV := hid (HBV.out.kept M.kept); replace HCU := hid (HCU.out.kept M.kept); replace HNB := hid (HNB.out.kept M.kept); replace HBB0 := hid (HBB0.out.kept M.kept); replace HCB := hid (HCB.out.kept M.kept); replace HN2 := hid (HN2.out.kept M.kept); replace HB2 := hid (HB2.out.kept M.kept); replace HK0 := hid (HK0.out.trans M.kept); have hct8 : c ≠ t8 := (by omega); replace hcw := Nat.lt_of_lt_of_le hcw M.kept.size; have hc2 : w8.heap[c]? = some (.cells (chL [(.slice (some ⟨g, 0, none⟩) 3 cap0), nilS, nilS, nilS, nilS, nilS, nilS, nilS, nilS, nilS, nilS, .int .u8 0, .int .u8 0, .int .u8 0, nilS, nilS, nilS, nilS, tv] z20 z20).toArray 119 (0, 0)) := M.kept.row hc (by simp); replace M := (M.anew []).into hc2 (ne3 hct8 hct7 hctb); clear hc2)
    | ((with_reducible apply W_stP (b := c) (o := 39) (n := 20) (v := .agg (z20.map n8).toArray) (rs := (chL [(.slice (some ⟨g, 0, none⟩) 3 cap0), nilS, nilS, nilS, nilS, nilS, nilS, nilS, nilS, nilS, nilS, .int .u8 0, .int .u8 0, .int .u8 0, nilS, nilS, nilS, nilS, tv] z20 z20).toArray)); rfl; exact congrArg Value.agg (by kernel_rfl); exact M.r0; exact size45; kernel_rfl; exact oneL rfl; exact Nat.le_of_ble_eq_true (by kernel_rfl); kernel_rfl; intro wS K hr3; replace HAC := hid (HAC.out.keptC K M.r0 (by decide)); replace HNV := hid (HNV.out.keptC K M.r0 (not_bytes_at (i := 2) (p := none) (n := 0) (m := 0) (by kernel_rfl))); replace HBV := hid (HBV.out.keptC K M.r0 (not_bytes_at (i := 2) (p := none) (n := 0) (m := 0) (by kernel_rfl))); replace HCU := hid (HCU.out.keptC K M.r0 (not_bytes_at (i := 2) (p := none) (n := 0) (m := 0) (by kernel_rfl))); replace HNB := hid (HNB.out.keptC K M.r0 (not_bytes_at (i := 2) (p := none) (n := 0) (m := 0) (by kernel_rfl))); replace HBB0 := hid (HBB0.out.keptC K M.r0 (not_bytes_at (i := 2) (p := none) (n := 0) (m := 0) (by kernel_rfl))); replace HCB := hid (HCB.out.keptC K M.r0 (not_bytes_at (i := 2) (p := none) (n := 0) (m := 0) (by kernel_rfl))); replace HN2 := hid (HN2.out.keptC K M.r0 (not_bytes_at (i := 2) (p := none) (n := 0) (m := 0) (by kernel_rfl))); replace HB2 := hid (HB2.out.keptC K M.r0 (not_bytes_at (i := 2) (p := none) (n := 0) (m := 0) (by kernel_rfl))); replace M := Mem.callPut (L1 := []) M (Or.inl (by simp)) K hr3; clear K hr3; simp only [List.cons_append, List.nil_append] at M)
    | ((with_reducible apply W_stV (b := c) (o := 9) (v := nilS)); rfl; rfl; exact rfl; exact M.r0; exact size115; exact Nat.le_of_ble_eq_true (by kernel_rfl); intro wS K hr3; rw [show (chL [(.slice (some ⟨g, 0, none⟩) 3 cap0), nilS, nilS, nilS, nilS, nilS, nilS, nilS, nilS, nilS, nilS, .int .u8 0, .int .u8 0, .int .u8 0, nilS, nilS, nilS, nilS, tv] z20 z20).toArray.setIfInBounds 9 (nilS) = (chL [(.slice (some ⟨g, 0, none⟩) 3 cap0), nilS, nilS, nilS, nilS, nilS, nilS, nilS, nilS, nilS, nilS, .int .u8 0, .int .u8 0, .int .u8 0, nilS, nilS, nilS, nilS, tv] z20 z20).toArray from by kernel_rfl] at hr3; replace HAC := hid (HAC.out.keptC K M.r0 (by decide)); replace HNV := hid (HNV.out.keptC K M.r0 (not_bytes_at (i := 2) (p := none) (n := 0) (m := 0) (by kernel_rfl))); replace HBV := hid (HBV.out.keptC K M.r0 (not_bytes_at (i := 2) (p := none) (n := 0) (m := 0) (by kernel_rfl))); replace HCU := hid (HCU.out.keptC K M.r0 (not_bytes_at (i := 2) (p := none) (n := 0) (m := 0) (by kernel_rfl))); replace HNB := hid (HNB.out.keptC K M.r0 (not_bytes_at (i := 2) (p := none) (n := 0) (m := 0) (by kernel_rfl))); replace HBB0 := hid (HBB0.out.keptC K M.r0 (not_bytes_at (i := 2) (p := none) (n := 0) (m := 0) (by kernel_rfl))); replace HCB := hid (HCB.out.keptC K M.r0 (not_bytes_at (i := 2) (p := none) (n := 0) (m := 0) (by kernel_rfl))); replace HN2 := hid (HN2.out.keptC K M.r0 (not_bytes_at (i := 2) (p := none) (n := 0) (m := 0) (by kernel_rfl))); replace HB2 := hid (HB2.out.keptC K M.r0 (not_bytes_at (i := 2) (p := none) (n := 0) (m := 0) (by kernel_rfl))); replace M := Mem.callPut (L1 := []) M (Or.inl (by simp)) K hr3; clear K hr3; simp only [List.cons_append, List.nil_append] at M)
    | ((with_reducible apply W_loadCell); rfl; exact M.r3; exact (show (txP nilS).toArray[40]? = some (.bool false) by kernel_rfl); exact Salg.underlying4; rfl; simp only [Act.put, List.setIfInBounds_toArray, List.set_cons_zero, List.set_cons_succ])
    | ((with_reducible apply W_loadCell); rfl; exact M.r0; exact (show (chL [(.slice (some ⟨g, 0, none⟩) 3 cap0), nilS, nilS, nilS, nilS, nilS, nilS, nilS, nilS, nilS, nilS, .int .u8 0, .int .u8 0, .int .u8 0, nilS, nilS, nilS, nilS, tv] z20 z20).toArray[13]? = some (.int .u8 0) by kernel_rfl); exact Salg.underlying5; rfl; simp only [Act.put, List.setIfInBounds_toArray, List.set_cons_zero, List.set_cons_succ])
    | ((with_reducible apply W_stV (b := c) (o := 13) (v := .int .u8 1)); rfl; rfl; exact rfl; exact M.r0; exact size5; exact Nat.le_of_ble_eq_true (by kernel_rfl); intro wS K hr3; rw [show (chL [(.slice (some ⟨g, 0, none⟩) 3 cap0), nilS, nilS, nilS, nilS, nilS, nilS, nilS, nilS, nilS, nilS, .int .u8 0, .int .u8 0, .int .u8 0, nilS, nilS, nilS, nilS, tv] z20 z20).toArray.setIfInBounds 13 (.int .u8 1) = (chL [(.slice (some ⟨g, 0, none⟩) 3 cap0), nilS, nilS, nilS, nilS, nilS, nilS, nilS, nilS, nilS, nilS, .int .u8 0, .int .u8 0, .int .u8 1, nilS, nilS, nilS, nilS, tv] z20 z20).toArray from by kernel_rfl] at hr3; replace HAC := hid (HAC.out.keptC K M.r0 (by decide)); replace HNV := hid (HNV.out.keptC K M.r0 (not_bytes_at (i := 2) (p := none) (n := 0) (m := 0) (by kernel_rfl))); replace HBV := hid (HBV.out.keptC K M.r0 (not_bytes_at (i := 2) (p := none) (n := 0) (m := 0) (by kernel_rfl))); replace HCU := hid (HCU.out.keptC K M.r0 (not_bytes_at (i := 2) (p := none) (n := 0) (m := 0) (by kernel_rfl))); replace HNB := hid (HNB.out.keptC K M.r0 (not_bytes_at (i := 2) (p := none) (n := 0) (m := 0) (by kernel_rfl))); replace HBB0 := hid (HBB0.out.keptC K M.r0 (not_bytes_at (i := 2) (p := none) (n := 0) (m := 0) (by kernel_rfl))); replace HCB := hid (HCB.out.keptC K M.r0 (not_bytes_at (i := 2) (p := none) (n := 0) (m := 0) (by kernel_rfl))); replace HN2 := hid (HN2.out.keptC K M.r0 (not_bytes_at (i := 2) (p := none) (n := 0) (m := 0) (by kernel_rfl))); replace HB2 := hid (HB2.out.keptC K M.r0 (not_bytes_at (i := 2) (p := none) (n := 0) (m := 0) (by kernel_rfl))); replace M := Mem.callPut (L1 := []) M (Or.inl (by simp)) K hr3; clear K hr3; simp only [List.cons_append, List.nil_append] at M)
    | ((with_reducible apply W_loadCell); rfl; exact M.r3; exact (show (txP nilS).toArray[42]? = some (n64 200000) by kernel_rfl); exact Salg.underlying23; rfl; simp only [Act.put, List.setIfInBounds_toArray, List.set_cons_zero, List.set_cons_succ]))
  refine (num_int _ 200000 rfl (by decide) _).mono ?_
  rintro e w9 ⟨lim, rfl, xHLI, K⟩
  have HLI := hid xHLI
  replace HAC := hid (HAC.out.kept K)
  replace HNV := hid (HNV.out.kept K)
  replace HBV := hid (HBV.out.kept K)
  replace HCU := hid (HCU.out.kept K)
  replace HNB := hid (HNB.out.kept K)
  replace HBB0 := hid (HBB0.out.kept K)
  replace HCB := hid (HCB.out.kept K)
  replace HN2 := hid (HN2.out.kept K)
  replace HB2 := hid (HB2.out.kept K)
  replace M := M.call K
  clear K xHLI
  go_wp2_with ((with_reducible apply W_stV (b := c) (o := 14) (v := lim)); rfl; rfl; exact HLI.out.one; exact M.r0; exact size89; exact Nat.le_of_ble_eq_true (by kernel_rfl); intro wS K hr3; rw [show (chL [(.slice (some ⟨g, 0, none⟩) 3 cap0), nilS, nilS, nilS, nilS, nilS, nilS, nilS, nilS, nilS, nilS, .int .u8 0, .int .u8 0, .int .u8 1, nilS, nilS, nilS, nilS, tv] z20 z20).toArray.setIfInBounds 14 (lim) = (chL [(.slice (some ⟨g, 0, none⟩) 3 cap0), nilS, nilS, nilS, nilS, nilS, nilS, nilS, nilS, nilS, nilS, .int .u8 0, .int .u8 0, .int .u8 1, lim, nilS, nilS, nilS, tv] z20 z20).toArray from by kernel_rfl] at hr3; replace HAC := hid (HAC.out.keptC K M.r0 (by decide)); replace HNV := hid (HNV.out.keptC K M.r0 (not_bytes_at (i := 2) (p := none) (n := 0) (m := 0) (by kernel_rfl))); replace HBV := hid (HBV.out.keptC K M.r0 (not_bytes_at (i := 2) (p := none) (n := 0) (m := 0) (by kernel_rfl))); replace HCU := hid (HCU.out.keptC K M.r0 (not_bytes_at (i := 2) (p := none) (n := 0) (m := 0) (by kernel_rfl))); replace HNB := hid (HNB.out.keptC K M.r0 (not_bytes_at (i := 2) (p := none) (n := 0) (m := 0) (by kernel_rfl))); replace HBB0 := hid (HBB0.out.keptC K M.r0 (not_bytes_at (i := 2) (p := none) (n := 0) (m := 0) (by kernel_rfl))); replace HCB := hid (HCB.out.keptC K M.r0 (not_bytes_at (i := 2) (p := none) (n := 0) (m := 0) (by kernel_rfl))); replace HN2 := hid (HN2.out.keptC K M.r0 (not_bytes_at (i := 2) (p := none) (n := 0) (m := 0) (by kernel_rfl))); replace HB2 := hid (HB2.out.keptC K M.r0 (not_bytes_at (i := 2) (p := none) (n := 0) (m := 0) (by kernel_rfl))); replace HLI := hid (HLI.out.keptC K M.r0 (not_bytes_at (i := 2) (p := none) (n := 0) (m := 0) (by kernel_rfl))); replace M := Mem.callPut (L1 := []) M (Or.inl (by simp)) K hr3; clear K hr3; simp only [List.cons_append, List.nil_append] at M)
  refine S_region (by kernel_rfl) ?_
  replace HAC := hid (HAC.out.kept (Kept.refl [] _).drew)
  replace HNV := hid (HNV.out.kept (Kept.refl [] _).drew)
  replace HBV := hid (HBV.out.kept (Kept.refl [] _).drew)
  replace HCU := hid (HCU.out.kept (Kept.refl [] _).drew)
  replace HNB := hid (HNB.out.kept (Kept.refl [] _).drew)
  replace HBB0 := hid (HBB0.out.kept (Kept.refl [] _).drew)
  replace HCB := hid (HCB.out.kept (Kept.refl [] _).drew)
  replace HN2 := hid (HN2.out.kept (Kept.refl [] _).drew)
  replace HB2 := hid (HB2.out.kept (Kept.refl [] _).drew)
  replace HLI := hid (HLI.out.kept (Kept.refl [] _).drew)
  refine E_stage 0 8 [0, 1, 2, 3, 4, 5, 6, 7] (by kernel_rfl) M.drew ?_
  clear M
  simp only [List.filterMap_cons, List.filterMap_nil, List.getElem?_cons_zero, List.getElem?_cons_succ]
  ((with_reducible apply E_run); rfl; rfl; (intro w M; go_simp; (try go_ints); (try simp only [↓IntWalk.iteOmega]); (try with_reducible rfl)); simp only [Act.put, List.setIfInBounds_toArray, List.set_cons_zero, List.set_cons_succ])
  ((with_reducible apply E_run); rfl; rfl; (intro w M; go_simp; (try go_ints); (try simp only [↓IntWalk.iteOmega]); (try with_reducible rfl)); simp only [Act.put, List.setIfInBounds_toArray, List.set_cons_zero, List.set_cons_succ])
  ((with_reducible apply E_run); rfl; rfl; (intro w M; go_simp; (try go_ints); (try simp only [↓IntWalk.iteOmega]); (try with_reducible rfl)); simp only [Act.put, List.setIfInBounds_toArray, List.set_cons_zero, List.set_cons_succ])
  ((with_reducible apply E_run); rfl; rfl; (intro w M; go_simp; (try go_ints); (try simp only [↓IntWalk.iteOmega]); (try with_reducible rfl)); simp only [Act.put, List.setIfInBounds_toArray, List.set_cons_zero, List.set_cons_succ])
  ((with_reducible apply E_run); rfl; rfl; (intro w M; exact run_loadCell (M.r0) rfl (show (chL [(.slice (some ⟨g, 0, none⟩) 3 cap0), nilS, nilS, nilS, nilS, nilS, nilS, nilS, nilS, nilS, nilS, .int .u8 0, .int .u8 0, .int .u8 1, lim, nilS, nilS, nilS, tv] z20 z20).toArray[14]? = some (lim) by kernel_rfl) Salg.underlying89 rfl); simp only [Act.put, List.setIfInBounds_toArray, List.set_cons_zero, List.set_cons_succ])
  ((with_reducible apply E_run); rfl; rfl; (intro w M; exact run_loadAll M.r3 rfl Salg.underlying49 rfl size49); simp only [Act.put, List.setIfInBounds_toArray, List.set_cons_zero, List.set_cons_succ])
  refine E_call rfl Salg.func89 (by kernel_rfl) (by kernel_rfl) (args := [.agg (txP nilS).toArray]) rfl ?_
  intro w1 K M
  replace HAC := hid (HAC.out.kept K)
  replace HNV := hid (HNV.out.kept K)
  replace HBV := hid (HBV.out.kept K)
  replace HCU := hid (HCU.out.kept K)
  replace HNB := hid (HNB.out.kept K)
  replace HBB0 := hid (HBB0.out.kept K)
  replace HCB := hid (HCB.out.kept K)
  replace HN2 := hid (HN2.out.kept K)
  replace HB2 := hid (HB2.out.kept K)
  replace HLI := hid (HLI.out.kept K)
  clear K
  refine (intrinsic_any _).mono ?_
  rintro e w10 ⟨ig, rfl, xHIG, K⟩
  have HIG := hid xHIG
  clear xHIG
  replace HAC := hid (HAC.out.kept K)
  replace HNV := hid (HNV.out.kept K)
  replace HBV := hid (HBV.out.kept K)
  replace HCU := hid (HCU.out.kept K)
  replace HNB := hid (HNB.out.kept K)
  replace HBB0 := hid (HBB0.out.kept K)
  replace HCB := hid (HCB.out.kept K)
  replace HN2 := hid (HN2.out.kept K)
  replace HB2 := hid (HB2.out.kept K)
  replace HLI := hid (HLI.out.kept K)
  replace M := M.call K
  refine ⟨_, rfl, trivial, M, ?_⟩
  clear K
  simp only [Act.put, List.setIfInBounds_toArray, List.set_cons_zero, List.set_cons_succ]
  refine E_call rfl Salg.func88 (by kernel_rfl) (by kernel_rfl) (args := [lim, ig]) rfl ?_
  intro w1 K M
  replace HAC := hid (HAC.out.kept K)
  replace HNV := hid (HNV.out.kept K)
  replace HBV := hid (HBV.out.kept K)
  replace HCU := hid (HCU.out.kept K)
  replace HNB := hid (HNB.out.kept K)
  replace HBB0 := hid (HBB0.out.kept K)
  replace HCB := hid (HCB.out.kept K)
  replace HN2 := hid (HN2.out.kept K)
  replace HB2 := hid (HB2.out.kept K)
  replace HLI := hid (HLI.out.kept K)
  replace HIG := hid (HIG.out.kept K)
  clear K
  refine (less_any lim ig 200000 21000 _ HLI.out HIG.out (by decide) (by decide)).mono ?_
  rintro e w11 ⟨gv, rfl, xHGV, K⟩
  have HGV := hid xHGV
  clear xHGV
  replace HAC := hid (HAC.out.kept K)
  replace HNV := hid (HNV.out.kept K)
  replace HBV := hid (HBV.out.kept K)
  replace HCU := hid (HCU.out.kept K)
  replace HNB := hid (HNB.out.kept K)
  replace HBB0 := hid (HBB0.out.kept K)
  replace HCB := hid (HCB.out.kept K)
  replace HN2 := hid (HN2.out.kept K)
  replace HB2 := hid (HB2.out.kept K)
  replace HLI := hid (HLI.out.kept K)
  replace HIG := hid (HIG.out.kept K)
  replace M := M.call K
  refine ⟨_, rfl, trivial, M, ?_⟩
  clear K
  simp only [Act.put, List.setIfInBounds_toArray, List.set_cons_zero, List.set_cons_succ]
  refine E_nil ?_
  intro w12 K M
  replace HAC := hid (HAC.out.kept K)
  replace HNV := hid (HNV.out.kept K)
  replace HBV := hid (HBV.out.kept K)
  replace HCU := hid (HCU.out.kept K)
  replace HNB := hid (HNB.out.kept K)
  replace HBB0 := hid (HBB0.out.kept K)
  replace HCB := hid (HCB.out.kept K)
  replace HN2 := hid (HN2.out.kept K)
  replace HB2 := hid (HB2.out.kept K)
  replace HLI := hid (HLI.out.kept K)
  replace HIG := hid (HIG.out.kept K)
  replace HGV := hid (HGV.out.kept K)
  clear K
  clear HIG
  refine S_seg 8 11 (by kernel_rfl) (by decide) ?_
  simp only [List.take_succ_cons, List.take_zero, List.drop_zero, List.drop_succ_cons, Nat.sub_zero, Nat.reduceSub]
  go_wp2_with ((with_reducible apply W_stV (b := c) (o := 15) (v := gv)); rfl; rfl; exact HGV.out.one; exact M.r0; exact size89; exact Nat.le_of_ble_eq_true (by kernel_rfl); intro wS K hr3; rw [show (chL [(.slice (some ⟨g, 0, none⟩) 3 cap0), nilS, nilS, nilS, nilS, nilS, nilS, nilS, nilS, nilS, nilS, .int .u8 0, .int .u8 0, .int .u8 1, lim, nilS, nilS, nilS, tv] z20 z20).toArray.setIfInBounds 15 (gv) = (chL [(.slice (some ⟨g, 0, none⟩) 3 cap0), nilS, nilS, nilS, nilS, nilS, nilS, nilS, nilS, nilS, nilS, .int .u8 0, .int .u8 0, .int .u8 1, lim, gv, nilS, nilS, tv] z20 z20).toArray from by kernel_rfl] at hr3; replace HAC := hid (HAC.out.keptC K M.r0 (by decide)); replace HNV := hid (HNV.out.keptC K M.r0 (not_bytes_at (i := 2) (p := none) (n := 0) (m := 0) (by kernel_rfl))); replace HBV := hid (HBV.out.keptC K M.r0 (not_bytes_at (i := 2) (p := none) (n := 0) (m := 0) (by kernel_rfl))); replace HCU := hid (HCU.out.keptC K M.r0 (not_bytes_at (i := 2) (p := none) (n := 0) (m := 0) (by kernel_rfl))); replace HNB := hid (HNB.out.keptC K M.r0 (not_bytes_at (i := 2) (p := none) (n := 0) (m := 0) (by kernel_rfl))); replace HBB0 := hid (HBB0.out.keptC K M.r0 (not_bytes_at (i := 2) (p := none) (n := 0) (m := 0) (by kernel_rfl))); replace HCB := hid (HCB.out.keptC K M.r0 (not_bytes_at (i := 2) (p := none) (n := 0) (m := 0) (by kernel_rfl))); replace HN2 := hid (HN2.out.keptC K M.r0 (not_bytes_at (i := 2) (p := none) (n := 0) (m := 0) (by kernel_rfl))); replace HB2 := hid (HB2.out.keptC K M.r0 (not_bytes_at (i := 2) (p := none) (n := 0) (m := 0) (by kernel_rfl))); replace HLI := hid (HLI.out.keptC K M.r0 (not_bytes_at (i := 2) (p := none) (n := 0) (m := 0) (by kernel_rfl))); replace HGV := hid (HGV.out.keptC K M.r0 (not_bytes_at (i := 2) (p := none) (n := 0) (m := 0) (by kernel_rfl))); replace M := Mem.callPut (L1 := []) M (Or.inl (by simp)) K hr3; clear K hr3; simp only [List.cons_append, List.nil_append] at M)
  refine S_done ?_
  go_wp2_with ((with_reducible apply W_loadAll); rfl; exact M.r3; exact Salg.underlying49; rfl; exact size49; simp only [Act.put, List.setIfInBounds_toArray, List.set_cons_zero, List.set_cons_succ])
  refine (price_any c 119 _ nilS _ M.r0 (chL_fee rfl rfl rfl) (by kernel_rfl)).mono ?_
  rintro e w13 ⟨pr, rfl, xHPR, K⟩
  have HPR := hid xHPR
  replace HAC := hid (HAC.out.kept K)
  replace HNV := hid (HNV.out.kept K)
  replace HBV := hid (HBV.out.kept K)
  replace HCU := hid (HCU.out.kept K)
  replace HNB := hid (HNB.out.kept K)
  replace HBB0 := hid (HBB0.out.kept K)
  replace HCB := hid (HCB.out.kept K)
  replace HN2 := hid (HN2.out.kept K)
  replace HB2 := hid (HB2.out.kept K)
  replace HLI := hid (HLI.out.kept K)
  replace HGV := hid (HGV.out.kept K)
  replace M := M.call K
  clear K xHPR
  go_wp2_with (first
    | ((with_reducible apply W_stV (b := c) (o := 17) (v := pr)); rfl; rfl; exact HPR.out.one; exact M.r0; exact size89; exact Nat.le_of_ble_eq_true (by kernel_rfl); intro wS K hr3; rw [show (chL [(.slice (some ⟨g, 0, none⟩) 3 cap0), nilS, nilS, nilS, nilS, nilS, nilS, nilS, nilS, nilS, nilS, .int .u8 0, .int .u8 0, .int .u8 1, lim, gv, nilS, nilS, tv] z20 z20).toArray.setIfInBounds 17 (pr) = (chL [(.slice (some ⟨g, 0, none⟩) 3 cap0), nilS, nilS, nilS, nilS, nilS, nilS, nilS, nilS, nilS, nilS, .int .u8 0, .int .u8 0, .int .u8 1, lim, gv, nilS, pr, tv] z20 z20).toArray from by kernel_rfl] at hr3; replace HAC := hid (HAC.out.keptC K M.r0 (by decide)); replace HNV := hid (HNV.out.keptC K M.r0 (not_bytes_at (i := 2) (p := none) (n := 0) (m := 0) (by kernel_rfl))); replace HBV := hid (HBV.out.keptC K M.r0 (not_bytes_at (i := 2) (p := none) (n := 0) (m := 0) (by kernel_rfl))); replace HCU := hid (HCU.out.keptC K M.r0 (not_bytes_at (i := 2) (p := none) (n := 0) (m := 0) (by kernel_rfl))); replace HNB := hid (HNB.out.keptC K M.r0 (not_bytes_at (i := 2) (p := none) (n := 0) (m := 0) (by kernel_rfl))); replace HBB0 := hid (HBB0.out.keptC K M.r0 (not_bytes_at (i := 2) (p := none) (n := 0) (m := 0) (by kernel_rfl))); replace HCB := hid (HCB.out.keptC K M.r0 (not_bytes_at (i := 2) (p := none) (n := 0) (m := 0) (by kernel_rfl))); replace HN2 := hid (HN2.out.keptC K M.r0 (not_bytes_at (i := 2) (p := none) (n := 0) (m := 0) (by kernel_rfl))); replace HB2 := hid (HB2.out.keptC K M.r0 (not_bytes_at (i := 2) (p := none) (n := 0) (m := 0) (by kernel_rfl))); replace HLI := hid (HLI.out.keptC K M.r0 (not_bytes_at (i := 2) (p := none) (n := 0) (m := 0) (by kernel_rfl))); replace HGV := hid (HGV.out.keptC K M.r0 (not_bytes_at (i := 2) (p := none) (n := 0) (m := 0) (by kernel_rfl))); replace HPR := hid (HPR.out.keptC K M.r0 (not_bytes_at (i := 2) (p := none) (n := 0) (m := 0) (by kernel_rfl))); replace M := Mem.callPut (L1 := []) M (Or.inl (by simp)) K hr3; clear K hr3; simp only [List.cons_append, List.nil_append] at M)
    | ((with_reducible apply W_loadX (n := 20) (vs := ((ad 240).map n8).toArray)); rfl; exact M.r3; exact Salg.underlying45; rfl; exact size45; exact Nat.le_of_ble_eq_true (by kernel_rfl); exact (show ((txP nilS).toArray).extract 0 (0 + 20) = _ by kernel_rfl); simp only [Act.put, List.setIfInBounds_toArray, List.set_cons_zero, List.set_cons_succ])
    | ((with_reducible apply W_stP (b := c) (o := 19) (n := 20) (v := .agg ((ad 240).map n8).toArray) (rs := (chL [(.slice (some ⟨g, 0, none⟩) 3 cap0), nilS, nilS, nilS, nilS, nilS, nilS, nilS, nilS, nilS, nilS, .int .u8 0, .int .u8 0, .int .u8 1, lim, gv, nilS, pr, tv] (ad 240) z20).toArray)); rfl; rfl; exact M.r0; exact size45; kernel_rfl; exact oneL rfl; exact Nat.le_of_ble_eq_true (by kernel_rfl); kernel_rfl; intro wS K hr3; replace HAC := hid (HAC.out.keptC K M.r0 (by decide)); replace HNV := hid (HNV.out.keptC K M.r0 (not_bytes_at (i := 2) (p := none) (n := 0) (m := 0) (by kernel_rfl))); replace HBV := hid (HBV.out.keptC K M.r0 (not_bytes_at (i := 2) (p := none) (n := 0) (m := 0) (by kernel_rfl))); replace HCU := hid (HCU.out.keptC K M.r0 (not_bytes_at (i := 2) (p := none) (n := 0) (m := 0) (by kernel_rfl))); replace HNB := hid (HNB.out.keptC K M.r0 (not_bytes_at (i := 2) (p := none) (n := 0) (m := 0) (by kernel_rfl))); replace HBB0 := hid (HBB0.out.keptC K M.r0 (not_bytes_at (i := 2) (p := none) (n := 0) (m := 0) (by kernel_rfl))); replace HCB := hid (HCB.out.keptC K M.r0 (not_bytes_at (i := 2) (p := none) (n := 0) (m := 0) (by kernel_rfl))); replace HN2 := hid (HN2.out.keptC K M.r0 (not_bytes_at (i := 2) (p := none) (n := 0) (m := 0) (by kernel_rfl))); replace HB2 := hid (HB2.out.keptC K M.r0 (not_bytes_at (i := 2) (p := none) (n := 0) (m := 0) (by kernel_rfl))); replace HLI := hid (HLI.out.keptC K M.r0 (not_bytes_at (i := 2) (p := none) (n := 0) (m := 0) (by kernel_rfl))); replace HGV := hid (HGV.out.keptC K M.r0 (not_bytes_at (i := 2) (p := none) (n := 0) (m := 0) (by kernel_rfl))); replace HPR := hid (HPR.out.keptC K M.r0 (not_bytes_at (i := 2) (p := none) (n := 0) (m := 0) (by kernel_rfl))); replace M := Mem.callPut (L1 := []) M (Or.inl (by simp)) K hr3; clear K hr3; simp only [List.cons_append, List.nil_append] at M)
    | ((with_reducible apply W_stV (b := c) (o := 8) (v := nilS)); rfl; rfl; exact rfl; exact M.r0; exact size114; exact Nat.le_of_ble_eq_true (by kernel_rfl); intro wS K hr3; rw [show (chL [(.slice (some ⟨g, 0, none⟩) 3 cap0), nilS, nilS, nilS, nilS, nilS, nilS, nilS, nilS, nilS, nilS, .int .u8 0, .int .u8 0, .int .u8 1, lim, gv, nilS, pr, tv] (ad 240) z20).toArray.setIfInBounds 8 (nilS) = (chL [(.slice (some ⟨g, 0, none⟩) 3 cap0), nilS, nilS, nilS, nilS, nilS, nilS, nilS, nilS, nilS, nilS, .int .u8 0, .int .u8 0, .int .u8 1, lim, gv, nilS, pr, tv] (ad 240) z20).toArray from by kernel_rfl] at hr3; replace HAC := hid (HAC.out.keptC K M.r0 (by decide)); replace HNV := hid (HNV.out.keptC K M.r0 (not_bytes_at (i := 2) (p := none) (n := 0) (m := 0) (by kernel_rfl))); replace HBV := hid (HBV.out.keptC K M.r0 (not_bytes_at (i := 2) (p := none) (n := 0) (m := 0) (by kernel_rfl))); replace HCU := hid (HCU.out.keptC K M.r0 (not_bytes_at (i := 2) (p := none) (n := 0) (m := 0) (by kernel_rfl))); replace HNB := hid (HNB.out.keptC K M.r0 (not_bytes_at (i := 2) (p := none) (n := 0) (m := 0) (by kernel_rfl))); replace HBB0 := hid (HBB0.out.keptC K M.r0 (not_bytes_at (i := 2) (p := none) (n := 0) (m := 0) (by kernel_rfl))); replace HCB := hid (HCB.out.keptC K M.r0 (not_bytes_at (i := 2) (p := none) (n := 0) (m := 0) (by kernel_rfl))); replace HN2 := hid (HN2.out.keptC K M.r0 (not_bytes_at (i := 2) (p := none) (n := 0) (m := 0) (by kernel_rfl))); replace HB2 := hid (HB2.out.keptC K M.r0 (not_bytes_at (i := 2) (p := none) (n := 0) (m := 0) (by kernel_rfl))); replace HLI := hid (HLI.out.keptC K M.r0 (not_bytes_at (i := 2) (p := none) (n := 0) (m := 0) (by kernel_rfl))); replace HGV := hid (HGV.out.keptC K M.r0 (not_bytes_at (i := 2) (p := none) (n := 0) (m := 0) (by kernel_rfl))); replace HPR := hid (HPR.out.keptC K M.r0 (not_bytes_at (i := 2) (p := none) (n := 0) (m := 0) (by kernel_rfl))); replace M := Mem.callPut (L1 := []) M (Or.inl (by simp)) K hr3; clear K hr3; simp only [List.cons_append, List.nil_append] at M)
    | (((with_reducible apply W_loadCell); rfl; exact M.r0; exact (show (chL [(.slice (some ⟨g, 0, none⟩) 3 cap0), nilS, nilS, nilS, nilS, nilS, nilS, nilS, nilS, nilS, nilS, .int .u8 0, .int .u8 0, .int .u8 1, lim, gv, nilS, pr, tv] (ad 240) z20).toArray[0]? = some (.slice (some ⟨g, 0, none⟩) 3 cap0) by kernel_rfl); exact Salg.underlying108; rfl; simp only [Act.put, List.setIfInBounds_toArray, List.set_cons_zero, List.set_cons_succ])))
  go_loopw [96] (fun iv wr => ∃ i : Nat, i ≤ 3 ∧ iv = .int .i64 i ∧ Mem w8 [c] [(c, .cells (chL [(.slice (some ⟨g, 0, none⟩) 3 cap0), nilS, nilS, nilS, nilS, nilS, nilS, nilS, nilS, nilS, nilS, .int .u8 0, .int .u8 0, .int .u8 1, lim, gv, nilS, pr, tv] (ad 240) z20).toArray 119 (0, 0)), (t8, .cells ((ad 1).map n8).toArray 45 (0, 0)), (t7, .cells (acB nv2 bv2).cells.toArray 128 (0, 0)), (tb, .cells (txP nilS).toArray 49 (0, 0))] wr ∧ AcsV wr (.slice (some ⟨g, 0, none⟩) 3 cap0) (l3 nv bv cu nilS nvb bvb cub nv2 bv2) ∧ NumV wr nv 1 ∧ NumV wr bv 0 ∧ NatV wr cu ds ∧ NumV wr nvb 1 ∧ NumV wr bvb 0 ∧ NatV wr cub dsb ∧ NumV wr nv2 0 ∧ NumV wr bv2 340282366920938463463374607431768211456 ∧ NumV wr lim 200000 ∧ NumV wr gv 179000 ∧ NumV wr pr 0) (fun iv _ => (3 - intOf iv).toNat)
  case atStart => exact ⟨0, by omega, rfl, M, HAC.out, HNV.out, HBV.out, HCU.out, HNB.out, HBB0.out, HCB.out, HN2.out, HB2.out, HLI.out, HGV.out, HPR.out⟩
  case round =>
    clear M HAC HNV HBV HCU HNB HBB0 HCB HN2 HB2 HLI HGV HPR
    obtain ⟨i, hi, rfl, M, xHAC, xHNV, xHBV, xHCU, xHNB, xHBB0, xHCB, xHN2, xHB2, xHLI, xHGV, xHPR⟩ := hrel
    have HAC := hid xHAC
    have HNV := hid xHNV
    have HBV := hid xHBV
    have HCU := hid xHCU
    have HNB := hid xHNB
    have HBB0 := hid xHBB0
    have HCB := hid xHCB
    have HN2 := hid xHN2
    have HB2 := hid xHB2
    have HLI := hid xHLI
    have HGV := hid xHGV
    have HPR := hid xHPR
    clear xHAC xHNV xHBV xHCU xHNB xHBB0 xHCB xHN2 xHB2 xHLI xHGV xHPR
    obtain rfl | rfl | rfl | rfl : i = 0 ∨ i = 1 ∨ i = 2 ∨ i = 3 := by omega
    · skip
      have M0 := M
      have HNX := hid HAC.out.three
      obtain ⟨g', cap', cur, e1, hg, hsz, xe0, xe1, xe2⟩ := HNX.out
      cases e1
      have HEX0 := hid xe0
      have HEX1 := hid xe1
      have HEX2 := hid xe2
      clear xe0 xe1 xe2 HNX
      replace M := M.here
      go_wp2_with (first
        | ((with_reducible apply W_loadX (b := g) (o := 0) (n := 24) (cs := cur) (vs := (acN 1 nv bv cu nilS).cells.toArray)); rfl; exact M.kept.row hg (by simp); exact Salg.underlying128; rfl; exact size128; omega; exact HEX0.out; simp only [Act.put, List.setIfInBounds_toArray, List.set_cons_zero, List.set_cons_succ])
        | ((with_reducible apply L_allocA (d := 10) M); exact zero128; clear M; intro t10 w1 ht10 M; simp only [Act.put, List.setIfInBounds_toArray, List.set_cons_zero, List.set_cons_succ])
        | ((with_reducible apply W_storeK (b := t10) (vs := (acN 1 nv bv cu nilS).cells.toArray)); rfl; rfl; exact M.r0; exact size128; rfl; exact oneT (acN_one (n := 1) HNV.out.one HBV.out.one HCU.out.one (sl := nilS) rfl); intro w3 K hr3; replace M := Mem.callPut (L1 := []) M (Or.inr ht10) K hr3; clear K hr3; simp only [List.nil_append] at M)
        | ((with_reducible apply W_loadCell); rfl; exact M.r0; exact (show (acN 1 nv bv cu nilS).cells.toArray[23]? = some nilS by kernel_rfl); exact Salg.underlying126; rfl; simp only [Act.put, List.setIfInBounds_toArray, List.set_cons_zero, List.set_cons_succ]))
      replace HAC := hid (HAC.out.kept M.kept)
      replace HNV := hid (HNV.out.kept M.kept)
      replace HBV := hid (HBV.out.kept M.kept)
      replace HCU := hid (HCU.out.kept M.kept)
      replace HNB := hid (HNB.out.kept M.kept)
      replace HBB0 := hid (HBB0.out.kept M.kept)
      replace HCB := hid (HCB.out.kept M.kept)
      replace HN2 := hid (HN2.out.kept M.kept)
      replace HB2 := hid (HB2.out.kept M.kept)
      replace HLI := hid (HLI.out.kept M.kept)
      replace HGV := hid (HGV.out.kept M.kept)
      replace HPR := hid (HPR.out.kept M.kept)
      replace M := M0.call M.kept
      clear M0 HEX0 HEX1 HEX2 hg hsz
      go_loopw [103] (fun iv wx => iv = .int .i64 0 ∧ Mem w8 [c] [(c, .cells (chL [(.slice (some ⟨g, 0, none⟩) 3 cap0), nilS, nilS, nilS, nilS, nilS, nilS, nilS, nilS, nilS, nilS, .int .u8 0, .int .u8 0, .int .u8 1, lim, gv, nilS, pr, tv] (ad 240) z20).toArray 119 (0, 0)), (t8, .cells ((ad 1).map n8).toArray 45 (0, 0)), (t7, .cells (acB nv2 bv2).cells.toArray 128 (0, 0)), (tb, .cells (txP nilS).toArray 49 (0, 0))] wx ∧ AcsV wx (.slice (some ⟨g, 0, none⟩) 3 cap0) (l3 nv bv cu nilS nvb bvb cub nv2 bv2) ∧ NumV wx nv 1 ∧ NumV wx bv 0 ∧ NatV wx cu ds ∧ NumV wx nvb 1 ∧ NumV wx bvb 0 ∧ NatV wx cub dsb ∧ NumV wx nv2 0 ∧ NumV wx bv2 340282366920938463463374607431768211456 ∧ NumV wx lim 200000 ∧ NumV wx gv 179000 ∧ NumV wx pr 0) (fun _ _ => 0)
      case atStart => exact ⟨rfl, M, HAC.out, HNV.out, HBV.out, HCU.out, HNB.out, HBB0.out, HCB.out, HN2.out, HB2.out, HLI.out, HGV.out, HPR.out⟩
      case round =>
        clear M HAC HNV HBV HCU HNB HBB0 HCB HN2 HB2 HLI HGV HPR
        obtain ⟨rfl, M, xHAC, xHNV, xHBV, xHCU, xHNB, xHBB0, xHCB, xHN2, xHB2, xHLI, xHGV, xHPR⟩ := hrel
        have HAC := hid xHAC
        have HNV := hid xHNV
        have HBV := hid xHBV
        have HCU := hid xHCU
        have HNB := hid xHNB
        have HBB0 := hid xHBB0
        have HCB := hid xHCB
        have HN2 := hid xHN2
        have HB2 := hid xHB2
        have HLI := hid xHLI
        have HGV := hid xHGV
        have HPR := hid xHPR
        clear xHAC xHNV xHBV xHCU xHNB xHBB0 xHCB xHN2 xHB2 xHLI xHGV xHPR
        go_wp2_with fail
        go_roundw
        case rel => exact ⟨1, by omega, by go_num, M, HAC.out, HNV.out, HBV.out, HCU.out, HNB.out, HBB0.out, HCB.out, HN2.out, HB2.out, HLI.out, HGV.out, HPR.out⟩
        case measure => decide
    · skip
      have M0 := M
      have HNX := hid HAC.out.three
      obtain ⟨g', cap', cur, e1, hg, hsz, xe0, xe1, xe2⟩ := HNX.out
      cases e1
      have HEX0 := hid xe0
      have HEX1 := hid xe1
      have HEX2 := hid xe2
      clear xe0 xe1 xe2 HNX
      replace M := M.here
      go_wp2_with (first
        | ((with_reducible apply W_loadX (b := g) (o := 24) (n := 24) (cs := cur) (vs := (acN 2 nvb bvb cub nilS).cells.toArray)); rfl; exact M.kept.row hg (by simp); exact Salg.underlying128; rfl; exact size128; omega; exact HEX1.out; simp only [Act.put, List.setIfInBounds_toArray, List.set_cons_zero, List.set_cons_succ])
        | ((with_reducible apply L_allocA (d := 10) M); exact zero128; clear M; intro t10 w1 ht10 M; simp only [Act.put, List.setIfInBounds_toArray, List.set_cons_zero, List.set_cons_succ])
        | ((with_reducible apply W_storeK (b := t10) (vs := (acN 2 nvb bvb cub nilS).cells.toArray)); rfl; rfl; exact M.r0; exact size128; rfl; exact oneT (acN_one (n := 2) HNB.out.one HBB0.out.one HCB.out.one (sl := nilS) rfl); intro w3 K hr3; replace M := Mem.callPut (L1 := []) M (Or.inr ht10) K hr3; clear K hr3; simp only [List.nil_append] at M)
        | ((with_reducible apply W_loadCell); rfl; exact M.r0; exact (show (acN 2 nvb bvb cub nilS).cells.toArray[23]? = some nilS by kernel_rfl); exact Salg.underlying126; rfl; simp only [Act.put, List.setIfInBounds_toArray, List.set_cons_zero, List.set_cons_succ]))
      replace HAC := hid (HAC.out.kept M.kept)
      replace HNV := hid (HNV.out.kept M.kept)
      replace HBV := hid (HBV.out.kept M.kept)
      replace HCU := hid (HCU.out.kept M.kept)
      replace HNB := hid (HNB.out.kept M.kept)
      replace HBB0 := hid (HBB0.out.kept M.kept)
      replace HCB := hid (HCB.out.kept M.kept)
      replace HN2 := hid (HN2.out.kept M.kept)
      replace HB2 := hid (HB2.out.kept M.kept)
      replace HLI := hid (HLI.out.kept M.kept)
      replace HGV := hid (HGV.out.kept M.kept)
      replace HPR := hid (HPR.out.kept M.kept)
      replace M := M0.call M.kept
      clear M0 HEX0 HEX1 HEX2 hg hsz
      go_loopw [103] (fun iv wx => iv = .int .i64 0 ∧ Mem w8 [c] [(c, .cells (chL [(.slice (some ⟨g, 0, none⟩) 3 cap0), nilS, nilS, nilS, nilS, nilS, nilS, nilS, nilS, nilS, nilS, .int .u8 0, .int .u8 0, .int .u8 1, lim, gv, nilS, pr, tv] (ad 240) z20).toArray 119 (0, 0)), (t8, .cells ((ad 1).map n8).toArray 45 (0, 0)), (t7, .cells (acB nv2 bv2).cells.toArray 128 (0, 0)), (tb, .cells (txP nilS).toArray 49 (0, 0))] wx ∧ AcsV wx (.slice (some ⟨g, 0, none⟩) 3 cap0) (l3 nv bv cu nilS nvb bvb cub nv2 bv2) ∧ NumV wx nv 1 ∧ NumV wx bv 0 ∧ NatV wx cu ds ∧ NumV wx nvb 1 ∧ NumV wx bvb 0 ∧ NatV wx cub dsb ∧ NumV wx nv2 0 ∧ NumV wx bv2 340282366920938463463374607431768211456 ∧ NumV wx lim 200000 ∧ NumV wx gv 179000 ∧ NumV wx pr 0) (fun _ _ => 0)
      case atStart => exact ⟨rfl, M, HAC.out, HNV.out, HBV.out, HCU.out, HNB.out, HBB0.out, HCB.out, HN2.out, HB2.out, HLI.out, HGV.out, HPR.out⟩
      case round =>
        clear M HAC HNV HBV HCU HNB HBB0 HCB HN2 HB2 HLI HGV HPR
        obtain ⟨rfl, M, xHAC, xHNV, xHBV, xHCU, xHNB, xHBB0, xHCB, xHN2, xHB2, xHLI, xHGV, xHPR⟩ := hrel
        have HAC := hid xHAC
        have HNV := hid xHNV
        have HBV := hid xHBV
        have HCU := hid xHCU
        have HNB := hid xHNB
        have HBB0 := hid xHBB0
        have HCB := hid xHCB
        have HN2 := hid xHN2
        have HB2 := hid xHB2
        have HLI := hid xHLI
        have HGV := hid xHGV
        have HPR := hid xHPR
        clear xHAC xHNV xHBV xHCU xHNB xHBB0 xHCB xHN2 xHB2 xHLI xHGV xHPR
        go_wp2_with fail
        go_roundw
        case rel => exact ⟨2, by omega, by go_num, M, HAC.out, HNV.out, HBV.out, HCU.out, HNB.out, HBB0.out, HCB.out, HN2.out, HB2.out, HLI.out, HGV.out, HPR.out⟩
        case measure => decide
    · skip
      have M0 := M
      have HNX := hid HAC.out.three
      obtain ⟨g', cap', cur, e1, hg, hsz, xe0, xe1, xe2⟩ := HNX.out
      cases e1
      have HEX0 := hid xe0
      have HEX1 := hid xe1
      have HEX2 := hid xe2
      clear xe0 xe1 xe2 HNX
      replace M := M.here
      go_wp2_with (first
        | ((with_reducible apply W_loadX (b := g) (o := 48) (n := 24) (cs := cur) (vs := (acN 240 nv2 bv2 nilS nilS).cells.toArray)); rfl; exact M.kept.row hg (by simp); exact Salg.underlying128; rfl; exact size128; omega; exact HEX2.out; simp only [Act.put, List.setIfInBounds_toArray, List.set_cons_zero, List.set_cons_succ])
        | ((with_reducible apply L_allocA (d := 10) M); exact zero128; clear M; intro t10 w1 ht10 M; simp only [Act.put, List.setIfInBounds_toArray, List.set_cons_zero, List.set_cons_succ])
        | ((with_reducible apply W_storeK (b := t10) (vs := (acN 240 nv2 bv2 nilS nilS).cells.toArray)); rfl; rfl; exact M.r0; exact size128; rfl; exact oneT (acN_one (n := 240) HN2.out.one HB2.out.one (cu := nilS) rfl (sl := nilS) rfl); intro w3 K hr3; replace M := Mem.callPut (L1 := []) M (Or.inr ht10) K hr3; clear K hr3; simp only [List.nil_append] at M)
        | ((with_reducible apply W_loadCell); rfl; exact M.r0; exact (show (acN 240 nv2 bv2 nilS nilS).cells.toArray[23]? = some nilS by kernel_rfl); exact Salg.underlying126; rfl; simp only [Act.put, List.setIfInBounds_toArray, List.set_cons_zero, List.set_cons_succ]))
      replace HAC := hid (HAC.out.kept M.kept)
      replace HNV := hid (HNV.out.kept M.kept)
      replace HBV := hid (HBV.out.kept M.kept)
      replace HCU := hid (HCU.out.kept M.kept)
      replace HNB := hid (HNB.out.kept M.kept)
      replace HBB0 := hid (HBB0.out.kept M.kept)
      replace HCB := hid (HCB.out.kept M.kept)
      replace HN2 := hid (HN2.out.kept M.kept)
      replace HB2 := hid (HB2.out.kept M.kept)
      replace HLI := hid (HLI.out.kept M.kept)
      replace HGV := hid (HGV.out.kept M.kept)
      replace HPR := hid (HPR.out.kept M.kept)
      replace M := M0.call M.kept
      clear M0 HEX0 HEX1 HEX2 hg hsz
      go_loopw [103] (fun iv wx => iv = .int .i64 0 ∧ Mem w8 [c] [(c, .cells (chL [(.slice (some ⟨g, 0, none⟩) 3 cap0), nilS, nilS, nilS, nilS, nilS, nilS, nilS, nilS, nilS, nilS, .int .u8 0, .int .u8 0, .int .u8 1, lim, gv, nilS, pr, tv] (ad 240) z20).toArray 119 (0, 0)), (t8, .cells ((ad 1).map n8).toArray 45 (0, 0)), (t7, .cells (acB nv2 bv2).cells.toArray 128 (0, 0)), (tb, .cells (txP nilS).toArray 49 (0, 0))] wx ∧ AcsV wx (.slice (some ⟨g, 0, none⟩) 3 cap0) (l3 nv bv cu nilS nvb bvb cub nv2 bv2) ∧ NumV wx nv 1 ∧ NumV wx bv 0 ∧ NatV wx cu ds ∧ NumV wx nvb 1 ∧ NumV wx bvb 0 ∧ NatV wx cub dsb ∧ NumV wx nv2 0 ∧ NumV wx bv2 340282366920938463463374607431768211456 ∧ NumV wx lim 200000 ∧ NumV wx gv 179000 ∧ NumV wx pr 0) (fun _ _ => 0)
      case atStart => exact ⟨rfl, M, HAC.out, HNV.out, HBV.out, HCU.out, HNB.out, HBB0.out, HCB.out, HN2.out, HB2.out, HLI.out, HGV.out, HPR.out⟩
      case round =>
        clear M HAC HNV HBV HCU HNB HBB0 HCB HN2 HB2 HLI HGV HPR
        obtain ⟨rfl, M, xHAC, xHNV, xHBV, xHCU, xHNB, xHBB0, xHCB, xHN2, xHB2, xHLI, xHGV, xHPR⟩ := hrel
        have HAC := hid xHAC
        have HNV := hid xHNV
        have HBV := hid xHBV
        have HCU := hid xHCU
        have HNB := hid xHNB
        have HBB0 := hid xHBB0
        have HCB := hid xHCB
        have HN2 := hid xHN2
        have HB2 := hid xHB2
        have HLI := hid xHLI
        have HGV := hid xHGV
        have HPR := hid xHPR
        clear xHAC xHNV xHBV xHCU xHNB xHBB0 xHCB xHN2 xHB2 xHLI xHGV xHPR
        go_wp2_with fail
        go_roundw
        case rel => exact ⟨3, by omega, by go_num, M, HAC.out, HNV.out, HBV.out, HCU.out, HNB.out, HBB0.out, HCB.out, HN2.out, HB2.out, HLI.out, HGV.out, HPR.out⟩
        case measure => decide
    · skip
      go_wp2_with fail
      refine S_region (by kernel_rfl) ?_
      replace HAC := hid (HAC.out.kept (Kept.refl [] _).drew)
      replace HNV := hid (HNV.out.kept (Kept.refl [] _).drew)
      replace HBV := hid (HBV.out.kept (Kept.refl [] _).drew)
      replace HCU := hid (HCU.out.kept (Kept.refl [] _).drew)
      replace HNB := hid (HNB.out.kept (Kept.refl [] _).drew)
      replace HBB0 := hid (HBB0.out.kept (Kept.refl [] _).drew)
      replace HCB := hid (HCB.out.kept (Kept.refl [] _).drew)
      replace HN2 := hid (HN2.out.kept (Kept.refl [] _).drew)
      replace HB2 := hid (HB2.out.kept (Kept.refl [] _).drew)
      replace HLI := hid (HLI.out.kept (Kept.refl [] _).drew)
      replace HGV := hid (HGV.out.kept (Kept.refl [] _).drew)
      replace HPR := hid (HPR.out.kept (Kept.refl [] _).drew)
      refine E_stage 0 9 [0, 1, 2, 3, 4, 5, 6, 7, 8] (by kernel_rfl) M.drew ?_
      clear M
      simp only [List.filterMap_cons, List.filterMap_nil, List.getElem?_cons_zero, List.getElem?_cons_succ]
      ((with_reducible apply E_run); rfl; rfl; (intro w M; go_simp; (try go_ints); (try simp only [↓IntWalk.iteOmega]); (try with_reducible rfl)); simp only [Act.put, List.setIfInBounds_toArray, List.set_cons_zero, List.set_cons_succ])
      ((with_reducible apply E_run); rfl; rfl; (intro w M; go_simp; (try go_ints); (try simp only [↓IntWalk.iteOmega]); (try with_reducible rfl)); simp only [Act.put, List.setIfInBounds_toArray, List.set_cons_zero, List.set_cons_succ])
      ((with_reducible apply E_run); rfl; rfl; (intro w M; go_simp; (try go_ints); (try simp only [↓IntWalk.iteOmega]); (try with_reducible rfl)); simp only [Act.put, List.setIfInBounds_toArray, List.set_cons_zero, List.set_cons_succ])
      ((with_reducible apply E_run); rfl; rfl; (intro w M; go_simp; (try go_ints); (try simp only [↓IntWalk.iteOmega]); (try with_reducible rfl)); simp only [Act.put, List.setIfInBounds_toArray, List.set_cons_zero, List.set_cons_succ])
      ((with_reducible apply E_run (v := .agg ((ad 240).map n8).toArray)); rfl; rfl; (intro w M; exact run_loadX (n := 20) M.r3 rfl Salg.underlying45 rfl size45 (Nat.le_of_ble_eq_true (by kernel_rfl)) (show ((txP nilS).toArray).extract 0 (0 + 20) = _ by kernel_rfl)); simp only [Act.put, List.setIfInBounds_toArray, List.set_cons_zero, List.set_cons_succ])
      ((with_reducible apply E_run); rfl; rfl; (intro w M; go_simp; (try go_ints); (try simp only [↓IntWalk.iteOmega]); (try with_reducible rfl)); simp only [Act.put, List.setIfInBounds_toArray, List.set_cons_zero, List.set_cons_succ])
      ((with_reducible apply E_run); rfl; rfl; (intro w M; exact run_loadCell (M.r2) rfl (show (acB nv2 bv2).cells.toArray[20]? = some nv2 by kernel_rfl) Salg.underlying89 rfl); simp only [Act.put, List.setIfInBounds_toArray, List.set_cons_zero, List.set_cons_succ])
      refine E_call rfl Salg.func87 (by kernel_rfl) (by kernel_rfl) (args := [.int .u64 1]) rfl ?_
      intro w1 K M
      replace HAC := hid (HAC.out.kept K)
      replace HNV := hid (HNV.out.kept K)
      replace HBV := hid (HBV.out.kept K)
      replace HCU := hid (HCU.out.kept K)
      replace HNB := hid (HNB.out.kept K)
      replace HBB0 := hid (HBB0.out.kept K)
      replace HCB := hid (HCB.out.kept K)
      replace HN2 := hid (HN2.out.kept K)
      replace HB2 := hid (HB2.out.kept K)
      replace HLI := hid (HLI.out.kept K)
      replace HGV := hid (HGV.out.kept K)
      replace HPR := hid (HPR.out.kept K)
      clear K
      refine (num_int _ 1 rfl (by decide) _).mono ?_
      rintro e w20 ⟨q1, rfl, xHQ1, K⟩
      have HQ1 := hid xHQ1
      clear xHQ1
      replace HAC := hid (HAC.out.kept K)
      replace HNV := hid (HNV.out.kept K)
      replace HBV := hid (HBV.out.kept K)
      replace HCU := hid (HCU.out.kept K)
      replace HNB := hid (HNB.out.kept K)
      replace HBB0 := hid (HBB0.out.kept K)
      replace HCB := hid (HCB.out.kept K)
      replace HN2 := hid (HN2.out.kept K)
      replace HB2 := hid (HB2.out.kept K)
      replace HLI := hid (HLI.out.kept K)
      replace HGV := hid (HGV.out.kept K)
      replace HPR := hid (HPR.out.kept K)
      replace M := M.call K
      refine ⟨_, rfl, trivial, M, ?_⟩
      clear K
      simp only [Act.put, List.setIfInBounds_toArray, List.set_cons_zero, List.set_cons_succ]
      refine E_call rfl Salg.func68 (by kernel_rfl) (by kernel_rfl) (args := [nv2, q1]) rfl ?_
      intro w1 K M
      replace HAC := hid (HAC.out.kept K)
      replace HNV := hid (HNV.out.kept K)
      replace HBV := hid (HBV.out.kept K)
      replace HCU := hid (HCU.out.kept K)
      replace HNB := hid (HNB.out.kept K)
      replace HBB0 := hid (HBB0.out.kept K)
      replace HCB := hid (HCB.out.kept K)
      replace HN2 := hid (HN2.out.kept K)
      replace HB2 := hid (HB2.out.kept K)
      replace HLI := hid (HLI.out.kept K)
      replace HGV := hid (HGV.out.kept K)
      replace HPR := hid (HPR.out.kept K)
      replace HQ1 := hid (HQ1.out.kept K)
      clear K
      refine (add_num nv2 q1 0 1 _ HN2.out HQ1.out (by decide) (by decide)).mono ?_
      rintro e w21 ⟨nn, rfl, xHNN, K⟩
      have HNN := hid xHNN
      clear xHNN
      replace HAC := hid (HAC.out.kept K)
      replace HNV := hid (HNV.out.kept K)
      replace HBV := hid (HBV.out.kept K)
      replace HCU := hid (HCU.out.kept K)
      replace HNB := hid (HNB.out.kept K)
      replace HBB0 := hid (HBB0.out.kept K)
      replace HCB := hid (HCB.out.kept K)
      replace HN2 := hid (HN2.out.kept K)
      replace HB2 := hid (HB2.out.kept K)
      replace HLI := hid (HLI.out.kept K)
      replace HGV := hid (HGV.out.kept K)
      replace HPR := hid (HPR.out.kept K)
      replace HQ1 := hid (HQ1.out.kept K)
      replace M := M.call K
      refine ⟨_, rfl, trivial, M, ?_⟩
      clear K
      simp only [Act.put, List.setIfInBounds_toArray, List.set_cons_zero, List.set_cons_succ]
      refine E_nil ?_
      intro w22 K M
      replace HAC := hid (HAC.out.kept K)
      replace HNV := hid (HNV.out.kept K)
      replace HBV := hid (HBV.out.kept K)
      replace HCU := hid (HCU.out.kept K)
      replace HNB := hid (HNB.out.kept K)
      replace HBB0 := hid (HBB0.out.kept K)
      replace HCB := hid (HCB.out.kept K)
      replace HN2 := hid (HN2.out.kept K)
      replace HB2 := hid (HB2.out.kept K)
      replace HLI := hid (HLI.out.kept K)
      replace HGV := hid (HGV.out.kept K)
      replace HPR := hid (HPR.out.kept K)
      replace HQ1 := hid (HQ1.out.kept K)
      replace HNN := hid (HNN.out.kept K)
      clear K
      clear HQ1
      refine S_seg 9 10 (by kernel_rfl) (by decide) ?_
      simp only [List.take_succ_cons, List.take_zero, List.drop_zero, List.drop_succ_cons, Nat.sub_zero, Nat.reduceSub]
      go_wp2_with fail
      refine (setNonce_S c _ _ nn nv bv cu nilS nvb bvb cub nv2 bv2 _ M.r0 (show (chL [(.slice (some ⟨g, 0, none⟩) 3 cap0), nilS, nilS, nilS, nilS, nilS, nilS, nilS, nilS, nilS, nilS, .int .u8 0, .int .u8 0, .int .u8 1, lim, gv, nilS, pr, tv] (ad 240) z20).toArray[0]? = some ((.slice (some ⟨g, 0, none⟩) 3 cap0)) by kernel_rfl) HAC.out HNN.out).mono ?_
      rintro e w23 ⟨rr, va2, rfl, K, hr3, xA⟩
      rw [show (chL [(.slice (some ⟨g, 0, none⟩) 3 cap0), nilS, nilS, nilS, nilS, nilS, nilS, nilS, nilS, nilS, nilS, .int .u8 0, .int .u8 0, .int .u8 1, lim, gv, nilS, pr, tv] (ad 240) z20).toArray.setIfInBounds 0 va2 = (chL [va2, nilS, nilS, nilS, nilS, nilS, nilS, nilS, nilS, nilS, nilS, .int .u8 0, .int .u8 0, .int .u8 1, lim, gv, nilS, pr, tv] (ad 240) z20).toArray from by kernel_rfl] at hr3
      replace HNV := hid (HNV.out.keptC K M.r0 (not_bytes_at (i := 2) (p := none) (n := 0) (m := 0) (by kernel_rfl)))
      replace HBV := hid (HBV.out.keptC K M.r0 (not_bytes_at (i := 2) (p := none) (n := 0) (m := 0) (by kernel_rfl)))
      replace HCU := hid (HCU.out.keptC K M.r0 (not_bytes_at (i := 2) (p := none) (n := 0) (m := 0) (by kernel_rfl)))
      replace HNB := hid (HNB.out.keptC K M.r0 (not_bytes_at (i := 2) (p := none) (n := 0) (m := 0) (by kernel_rfl)))
      replace HBB0 := hid (HBB0.out.keptC K M.r0 (not_bytes_at (i := 2) (p := none) (n := 0) (m := 0) (by kernel_rfl)))
      replace HCB := hid (HCB.out.keptC K M.r0 (not_bytes_at (i := 2) (p := none) (n := 0) (m := 0) (by kernel_rfl)))
      replace HN2 := hid (HN2.out.keptC K M.r0 (not_bytes_at (i := 2) (p := none) (n := 0) (m := 0) (by kernel_rfl)))
      replace HB2 := hid (HB2.out.keptC K M.r0 (not_bytes_at (i := 2) (p := none) (n := 0) (m := 0) (by kernel_rfl)))
      replace HLI := hid (HLI.out.keptC K M.r0 (not_bytes_at (i := 2) (p := none) (n := 0) (m := 0) (by kernel_rfl)))
      replace HGV := hid (HGV.out.keptC K M.r0 (not_bytes_at (i := 2) (p := none) (n := 0) (m := 0) (by kernel_rfl)))
      replace HPR := hid (HPR.out.keptC K M.r0 (not_bytes_at (i := 2) (p := none) (n := 0) (m := 0) (by kernel_rfl)))
      replace HNN := hid (HNN.out.keptC K M.r0 (not_bytes_at (i := 2) (p := none) (n := 0) (m := 0) (by kernel_rfl)))
      have HAC2 := hid xA
      replace M := Mem.callPut (L1 := []) M (Or.inl (by simp)) K hr3
      clear K hr3 xA
      simp only [List.cons_append, List.nil_append] at M
      clear HAC
      go_wp2_with fail
      refine S_done ?_
      go_wp2_with fail
      refine S_region (by kernel_rfl) ?_
      replace HNV := hid (HNV.out.kept (Kept.refl [] _).drew)
      replace HBV := hid (HBV.out.kept (Kept.refl [] _).drew)
      replace HCU := hid (HCU.out.kept (Kept.refl [] _).drew)
      replace HNB := hid (HNB.out.kept (Kept.refl [] _).drew)
      replace HBB0 := hid (HBB0.out.kept (Kept.refl [] _).drew)
      replace HCB := hid (HCB.out.kept (Kept.refl [] _).drew)
      replace HN2 := hid (HN2.out.kept (Kept.refl [] _).drew)
      replace HB2 := hid (HB2.out.kept (Kept.refl [] _).drew)
      replace HLI := hid (HLI.out.kept (Kept.refl [] _).drew)
      replace HGV := hid (HGV.out.kept (Kept.refl [] _).drew)
      replace HPR := hid (HPR.out.kept (Kept.refl [] _).drew)
      replace HNN := hid (HNN.out.kept (Kept.refl [] _).drew)
      replace HAC2 := hid (HAC2.out.kept (Kept.refl [] _).drew)
      refine E_stage 0 17 [0, 1, 2, 3, 4, 5, 6, 7, 8, 9, 10, 11, 12, 13, 14, 15, 16] (by kernel_rfl) M.drew ?_
      clear M
      simp only [List.filterMap_cons, List.filterMap_nil, List.getElem?_cons_zero, List.getElem?_cons_succ]
      ((with_reducible apply E_run); rfl; rfl; (intro w M; go_simp; (try go_ints); (try simp only [↓IntWalk.iteOmega]); (try with_reducible rfl)); simp only [Act.put, List.setIfInBounds_toArray, List.set_cons_zero, List.set_cons_succ])
      ((with_reducible apply E_run); rfl; rfl; (intro w M; go_simp; (try go_ints); (try simp only [↓IntWalk.iteOmega]); (try with_reducible rfl)); simp only [Act.put, List.setIfInBounds_toArray, List.set_cons_zero, List.set_cons_succ])
      ((with_reducible apply E_run); rfl; rfl; (intro w M; go_simp; (try go_ints); (try simp only [↓IntWalk.iteOmega]); (try with_reducible rfl)); simp only [Act.put, List.setIfInBounds_toArray, List.set_cons_zero, List.set_cons_succ])
      ((with_reducible apply E_run); rfl; rfl; (intro w M; go_simp; (try go_ints); (try simp only [↓IntWalk.iteOmega]); (try with_reducible rfl)); simp only [Act.put, List.setIfInBounds_toArray, List.set_cons_zero, List.set_cons_succ])
      ((with_reducible apply E_run (v := .agg ((ad 240).map n8).toArray)); rfl; rfl; (intro w M; exact run_loadX (n := 20) M.r3 rfl Salg.underlying45 rfl size45 (Nat.le_of_ble_eq_true (by kernel_rfl)) (show ((txP nilS).toArray).extract 0 (0 + 20) = _ by kernel_rfl)); simp only [Act.put, List.setIfInBounds_toArray, List.set_cons_zero, List.set_cons_succ])
      ((with_reducible apply E_run); rfl; rfl; (intro w M; go_simp; (try go_ints); (try simp only [↓IntWalk.iteOmega]); (try with_reducible rfl)); simp only [Act.put, List.setIfInBounds_toArray, List.set_cons_zero, List.set_cons_succ])
      ((with_reducible apply E_run); rfl; rfl; (intro w M; exact run_loadCell (M.r2) rfl (show (acB nv2 bv2).cells.toArray[21]? = some bv2 by kernel_rfl) Salg.underlying89 rfl); simp only [Act.put, List.setIfInBounds_toArray, List.set_cons_zero, List.set_cons_succ])
      ((with_reducible apply E_run); rfl; rfl; (intro w M; go_simp; (try go_ints); (try simp only [↓IntWalk.iteOmega]); (try with_reducible rfl)); simp only [Act.put, List.setIfInBounds_toArray, List.set_cons_zero, List.set_cons_succ])
      ((with_reducible apply E_run); rfl; rfl; (intro w M; go_simp; (try go_ints); (try simp only [↓IntWalk.iteOmega]); (try with_reducible rfl)); simp only [Act.put, List.setIfInBounds_toArray, List.set_cons_zero, List.set_cons_succ])
      ((with_reducible apply E_run); rfl; rfl; (intro w M; go_simp; (try go_ints); (try simp only [↓IntWalk.iteOmega]); (try with_reducible rfl)); simp only [Act.put, List.setIfInBounds_toArray, List.set_cons_zero, List.set_cons_succ])
      ((with_reducible apply E_run); rfl; rfl; (intro w M; exact run_loadCell (M.r0) rfl (show (chL [va2, nilS, nilS, nilS, nilS, nilS, nilS, nilS, nilS, nilS, nilS, .int .u8 0, .int .u8 0, .int .u8 1, lim, gv, nilS, pr, tv] (ad 240) z20).toArray[14]? = some (lim) by kernel_rfl) Salg.underlying89 rfl); simp only [Act.put, List.setIfInBounds_toArray, List.set_cons_zero, List.set_cons_succ])
      ((with_reducible apply E_run); rfl; rfl; (intro w M; go_simp; (try go_ints); (try simp only [↓IntWalk.iteOmega]); (try with_reducible rfl)); simp only [Act.put, List.setIfInBounds_toArray, List.set_cons_zero, List.set_cons_succ])
      ((with_reducible apply E_run); rfl; rfl; (intro w M; go_simp; (try go_ints); (try simp only [↓IntWalk.iteOmega]); (try with_reducible rfl)); simp only [Act.put, List.setIfInBounds_toArray, List.set_cons_zero, List.set_cons_succ])
      ((with_reducible apply E_run); rfl; rfl; (intro w M; go_simp; (try go_ints); (try simp only [↓IntWalk.iteOmega]); (try with_reducible rfl)); simp only [Act.put, List.setIfInBounds_toArray, List.set_cons_zero, List.set_cons_succ])
      ((with_reducible apply E_run); rfl; rfl; (intro w M; exact run_loadCell (M.r0) rfl (show (chL [va2, nilS, nilS, nilS, nilS, nilS, nilS, nilS, nilS, nilS, nilS, .int .u8 0, .int .u8 0, .int .u8 1, lim, gv, nilS, pr, tv] (ad 240) z20).toArray[17]? = some (pr) by kernel_rfl) Salg.underlying89 rfl); simp only [Act.put, List.setIfInBounds_toArray, List.set_cons_zero, List.set_cons_succ])
      refine E_call rfl Salg.func70 (by kernel_rfl) (by kernel_rfl) (args := [lim, pr]) rfl ?_
      intro w1 K M
      replace HNV := hid (HNV.out.kept K)
      replace HBV := hid (HBV.out.kept K)
      replace HCU := hid (HCU.out.kept K)
      replace HNB := hid (HNB.out.kept K)
      replace HBB0 := hid (HBB0.out.kept K)
      replace HCB := hid (HCB.out.kept K)
      replace HN2 := hid (HN2.out.kept K)
      replace HB2 := hid (HB2.out.kept K)
      replace HLI := hid (HLI.out.kept K)
      replace HGV := hid (HGV.out.kept K)
      replace HPR := hid (HPR.out.kept K)
      replace HNN := hid (HNN.out.kept K)
      replace HAC2 := hid (HAC2.out.kept K)
      clear K
      refine (mul_num lim pr 200000 0 _ HLI.out HPR.out (by decide) (by decide)).mono ?_
      rintro e w24 ⟨mu, rfl, xHMU, K⟩
      have HMU := hid xHMU
      clear xHMU
      replace HNV := hid (HNV.out.kept K)
      replace HBV := hid (HBV.out.kept K)
      replace HCU := hid (HCU.out.kept K)
      replace HNB := hid (HNB.out.kept K)
      replace HBB0 := hid (HBB0.out.kept K)
      replace HCB := hid (HCB.out.kept K)
      replace HN2 := hid (HN2.out.kept K)
      replace HB2 := hid (HB2.out.kept K)
      replace HLI := hid (HLI.out.kept K)
      replace HGV := hid (HGV.out.kept K)
      replace HPR := hid (HPR.out.kept K)
      replace HNN := hid (HNN.out.kept K)
      replace HAC2 := hid (HAC2.out.kept K)
      replace M := M.call K
      refine ⟨_, rfl, trivial, M, ?_⟩
      clear K
      simp only [Act.put, List.setIfInBounds_toArray, List.set_cons_zero, List.set_cons_succ]
      refine E_call rfl Salg.func88 (by kernel_rfl) (by kernel_rfl) (args := [bv2, mu]) rfl ?_
      intro w1 K M
      replace HNV := hid (HNV.out.kept K)
      replace HBV := hid (HBV.out.kept K)
      replace HCU := hid (HCU.out.kept K)
      replace HNB := hid (HNB.out.kept K)
      replace HBB0 := hid (HBB0.out.kept K)
      replace HCB := hid (HCB.out.kept K)
      replace HN2 := hid (HN2.out.kept K)
      replace HB2 := hid (HB2.out.kept K)
      replace HLI := hid (HLI.out.kept K)
      replace HGV := hid (HGV.out.kept K)
      replace HPR := hid (HPR.out.kept K)
      replace HNN := hid (HNN.out.kept K)
      replace HAC2 := hid (HAC2.out.kept K)
      replace HMU := hid (HMU.out.kept K)
      clear K
      refine (less_any bv2 mu 340282366920938463463374607431768211456 (200000 * 0) _ HB2.out HMU.out (by decide) (by decide)).mono ?_
      rintro e w25 ⟨bb, rfl, xHBB, K⟩
      have HBB := hid xHBB
      clear xHBB
      replace HNV := hid (HNV.out.kept K)
      replace HBV := hid (HBV.out.kept K)
      replace HCU := hid (HCU.out.kept K)
      replace HNB := hid (HNB.out.kept K)
      replace HBB0 := hid (HBB0.out.kept K)
      replace HCB := hid (HCB.out.kept K)
      replace HN2 := hid (HN2.out.kept K)
      replace HB2 := hid (HB2.out.kept K)
      replace HLI := hid (HLI.out.kept K)
      replace HGV := hid (HGV.out.kept K)
      replace HPR := hid (HPR.out.kept K)
      replace HNN := hid (HNN.out.kept K)
      replace HAC2 := hid (HAC2.out.kept K)
      replace HMU := hid (HMU.out.kept K)
      replace M := M.call K
      refine ⟨_, rfl, trivial, M, ?_⟩
      clear K
      simp only [Act.put, List.setIfInBounds_toArray, List.set_cons_zero, List.set_cons_succ]
      refine E_nil ?_
      intro w26 K M
      replace HNV := hid (HNV.out.kept K)
      replace HBV := hid (HBV.out.kept K)
      replace HCU := hid (HCU.out.kept K)
      replace HNB := hid (HNB.out.kept K)
      replace HBB0 := hid (HBB0.out.kept K)
      replace HCB := hid (HCB.out.kept K)
      replace HN2 := hid (HN2.out.kept K)
      replace HB2 := hid (HB2.out.kept K)
      replace HLI := hid (HLI.out.kept K)
      replace HGV := hid (HGV.out.kept K)
      replace HPR := hid (HPR.out.kept K)
      replace HNN := hid (HNN.out.kept K)
      replace HAC2 := hid (HAC2.out.kept K)
      replace HMU := hid (HMU.out.kept K)
      replace HBB := hid (HBB.out.kept K)
      clear K
      clear HMU
      refine S_seg 17 18 (by kernel_rfl) (by decide) ?_
      simp only [List.take_succ_cons, List.take_zero, List.drop_zero, List.drop_succ_cons, Nat.sub_zero, Nat.reduceSub]
      go_wp2_with fail
      refine (setBalance_S c _ _ bb nv bv cu nilS nvb bvb cub nn bv2 _ _ M.r0 (show (chL [va2, nilS, nilS, nilS, nilS, nilS, nilS, nilS, nilS, nilS, nilS, .int .u8 0, .int .u8 0, .int .u8 1, lim, gv, nilS, pr, tv] (ad 240) z20).toArray[0]? = some (va2) by kernel_rfl) HAC2.out HNN.out HBB.out).mono ?_
      rintro e w27 ⟨rr, va3, rfl, K, hr3, xA⟩
      rw [show (chL [va2, nilS, nilS, nilS, nilS, nilS, nilS, nilS, nilS, nilS, nilS, .int .u8 0, .int .u8 0, .int .u8 1, lim, gv, nilS, pr, tv] (ad 240) z20).toArray.setIfInBounds 0 va3 = (chL [va3, nilS, nilS, nilS, nilS, nilS, nilS, nilS, nilS, nilS, nilS, .int .u8 0, .int .u8 0, .int .u8 1, lim, gv, nilS, pr, tv] (ad 240) z20).toArray from by kernel_rfl] at hr3
      replace HNV := hid (HNV.out.keptC K M.r0 (not_bytes_at (i := 2) (p := none) (n := 0) (m := 0) (by kernel_rfl)))
      replace HBV := hid (HBV.out.keptC K M.r0 (not_bytes_at (i := 2) (p := none) (n := 0) (m := 0) (by kernel_rfl)))
      replace HCU := hid (HCU.out.keptC K M.r0 (not_bytes_at (i := 2) (p := none) (n := 0) (m := 0) (by kernel_rfl)))
      replace HNB := hid (HNB.out.keptC K M.r0 (not_bytes_at (i := 2) (p := none) (n := 0) (m := 0) (by kernel_rfl)))
      replace HBB0 := hid (HBB0.out.keptC K M.r0 (not_bytes_at (i := 2) (p := none) (n := 0) (m := 0) (by kernel_rfl)))
      replace HCB := hid (HCB.out.keptC K M.r0 (not_bytes_at (i := 2) (p := none) (n := 0) (m := 0) (by kernel_rfl)))
      replace HN2 := hid (HN2.out.keptC K M.r0 (not_bytes_at (i := 2) (p := none) (n := 0) (m := 0) (by kernel_rfl)))
      replace HB2 := hid (HB2.out.keptC K M.r0 (not_bytes_at (i := 2) (p := none) (n := 0) (m := 0) (by kernel_rfl)))
      replace HLI := hid (HLI.out.keptC K M.r0 (not_bytes_at (i := 2) (p := none) (n := 0) (m := 0) (by kernel_rfl)))
      replace HGV := hid (HGV.out.keptC K M.r0 (not_bytes_at (i := 2) (p := none) (n := 0) (m := 0) (by kernel_rfl)))
      replace HPR := hid (HPR.out.keptC K M.r0 (not_bytes_at (i := 2) (p := none) (n := 0) (m := 0) (by kernel_rfl)))
      replace HNN := hid (HNN.out.keptC K M.r0 (not_bytes_at (i := 2) (p := none) (n := 0) (m := 0) (by kernel_rfl)))
      replace HBB := hid (HBB.out.keptC K M.r0 (not_bytes_at (i := 2) (p := none) (n := 0) (m := 0) (by kernel_rfl)))
      have HAC3 := hid xA
      replace M := Mem.callPut (L1 := []) M (Or.inl (by simp)) K hr3
      clear K hr3 xA
      simp only [List.cons_append, List.nil_append] at M
      clear HAC2
      go_wp2_with fail
      refine S_done ?_
      go_wp2_with fail
      refine S_region (by kernel_rfl) ?_
      replace HNV := hid (HNV.out.kept (Kept.refl [] _).drew)
      replace HBV := hid (HBV.out.kept (Kept.refl [] _).drew)
      replace HCU := hid (HCU.out.kept (Kept.refl [] _).drew)
      replace HNB := hid (HNB.out.kept (Kept.refl [] _).drew)
      replace HBB0 := hid (HBB0.out.kept (Kept.refl [] _).drew)
      replace HCB := hid (HCB.out.kept (Kept.refl [] _).drew)
      replace HN2 := hid (HN2.out.kept (Kept.refl [] _).drew)
      replace HB2 := hid (HB2.out.kept (Kept.refl [] _).drew)
      replace HLI := hid (HLI.out.kept (Kept.refl [] _).drew)
      replace HGV := hid (HGV.out.kept (Kept.refl [] _).drew)
      replace HPR := hid (HPR.out.kept (Kept.refl [] _).drew)
      replace HNN := hid (HNN.out.kept (Kept.refl [] _).drew)
      replace HBB := hid (HBB.out.kept (Kept.refl [] _).drew)
      replace HAC3 := hid (HAC3.out.kept (Kept.refl [] _).drew)
      refine E_stage 0 5 [0, 1, 2, 3, 4] (by kernel_rfl) M.drew ?_
      clear M
      simp only [List.filterMap_cons, List.filterMap_nil, List.getElem?_cons_zero, List.getElem?_cons_succ]
      ((with_reducible apply E_run); rfl; rfl; (intro w M; go_simp; (try go_ints); (try simp only [↓IntWalk.iteOmega]); (try with_reducible rfl)); simp only [Act.put, List.setIfInBounds_toArray, List.set_cons_zero, List.set_cons_succ])
      ((with_reducible apply E_run); rfl; rfl; (intro w M; go_simp; (try go_ints); (try simp only [↓IntWalk.iteOmega]); (try with_reducible rfl)); simp only [Act.put, List.setIfInBounds_toArray, List.set_cons_zero, List.set_cons_succ])
      ((with_reducible apply E_run); rfl; rfl; (intro w M; go_simp; (try go_ints); (try simp only [↓IntWalk.iteOmega]); (try with_reducible rfl)); simp only [Act.put, List.setIfInBounds_toArray, List.set_cons_zero, List.set_cons_succ])
      ((with_reducible apply E_run); rfl; rfl; (intro w M; go_simp; (try go_ints); (try simp only [↓IntWalk.iteOmega]); (try with_reducible rfl)); simp only [Act.put, List.setIfInBounds_toArray, List.set_cons_zero, List.set_cons_succ])
      ((with_reducible apply E_run (v := .agg ((ad 240).map n8).toArray)); rfl; rfl; (intro w M; exact run_loadX (n := 20) M.r3 rfl Salg.underlying45 rfl size45 (Nat.le_of_ble_eq_true (by kernel_rfl)) (show ((txP nilS).toArray).extract 0 (0 + 20) = _ by kernel_rfl)); simp only [Act.put, List.setIfInBounds_toArray, List.set_cons_zero, List.set_cons_succ])
      refine E_nil ?_
      intro w28 K M
      replace HNV := hid (HNV.out.kept K)
      replace HBV := hid (HBV.out.kept K)
      replace HCU := hid (HCU.out.kept K)
      replace HNB := hid (HNB.out.kept K)
      replace HBB0 := hid (HBB0.out.kept K)
      replace HCB := hid (HCB.out.kept K)
      replace HN2 := hid (HN2.out.kept K)
      replace HB2 := hid (HB2.out.kept K)
      replace HLI := hid (HLI.out.kept K)
      replace HGV := hid (HGV.out.kept K)
      replace HPR := hid (HPR.out.kept K)
      replace HNN := hid (HNN.out.kept K)
      replace HBB := hid (HBB.out.kept K)
      replace HAC3 := hid (HAC3.out.kept K)
      clear K
      refine S_seg 5 6 (by kernel_rfl) (by decide) ?_
      simp only [List.take_succ_cons, List.take_zero, List.drop_zero, List.drop_succ_cons, Nat.sub_zero, Nat.reduceSub]
      go_wp2_with fail
      refine (warm_any c 119 _ _ [] (ad 240) _ M.r0 (show (chL [va3, nilS, nilS, nilS, nilS, nilS, nilS, nilS, nilS, nilS, nilS, .int .u8 0, .int .u8 0, .int .u8 1, lim, gv, nilS, pr, tv] (ad 240) z20).toArray[1]? = some (nilS) by kernel_rfl) (ads_nil _) (ad_ok _ (by decide)) (by decide) (by decide)).mono ?_
      rintro e w29 ⟨rr, wa1, rfl, K, hr3, xA⟩
      rw [show (chL [va3, nilS, nilS, nilS, nilS, nilS, nilS, nilS, nilS, nilS, nilS, .int .u8 0, .int .u8 0, .int .u8 1, lim, gv, nilS, pr, tv] (ad 240) z20).toArray.setIfInBounds 1 wa1 = (chL [va3, wa1, nilS, nilS, nilS, nilS, nilS, nilS, nilS, nilS, nilS, .int .u8 0, .int .u8 0, .int .u8 1, lim, gv, nilS, pr, tv] (ad 240) z20).toArray from by kernel_rfl] at hr3
      replace HNV := hid (HNV.out.keptC K M.r0 (not_bytes_at (i := 2) (p := none) (n := 0) (m := 0) (by kernel_rfl)))
      replace HBV := hid (HBV.out.keptC K M.r0 (not_bytes_at (i := 2) (p := none) (n := 0) (m := 0) (by kernel_rfl)))
      replace HCU := hid (HCU.out.keptC K M.r0 (not_bytes_at (i := 2) (p := none) (n := 0) (m := 0) (by kernel_rfl)))
      replace HNB := hid (HNB.out.keptC K M.r0 (not_bytes_at (i := 2) (p := none) (n := 0) (m := 0) (by kernel_rfl)))
      replace HBB0 := hid (HBB0.out.keptC K M.r0 (not_bytes_at (i := 2) (p := none) (n := 0) (m := 0) (by kernel_rfl)))
      replace HCB := hid (HCB.out.keptC K M.r0 (not_bytes_at (i := 2) (p := none) (n := 0) (m := 0) (by kernel_rfl)))
      replace HN2 := hid (HN2.out.keptC K M.r0 (not_bytes_at (i := 2) (p := none) (n := 0) (m := 0) (by kernel_rfl)))
      replace HB2 := hid (HB2.out.keptC K M.r0 (not_bytes_at (i := 2) (p := none) (n := 0) (m := 0) (by kernel_rfl)))
      replace HLI := hid (HLI.out.keptC K M.r0 (not_bytes_at (i := 2) (p := none) (n := 0) (m := 0) (by kernel_rfl)))
      replace HGV := hid (HGV.out.keptC K M.r0 (not_bytes_at (i := 2) (p := none) (n := 0) (m := 0) (by kernel_rfl)))
      replace HPR := hid (HPR.out.keptC K M.r0 (not_bytes_at (i := 2) (p := none) (n := 0) (m := 0) (by kernel_rfl)))
      replace HNN := hid (HNN.out.keptC K M.r0 (not_bytes_at (i := 2) (p := none) (n := 0) (m := 0) (by kernel_rfl)))
      replace HBB := hid (HBB.out.keptC K M.r0 (not_bytes_at (i := 2) (p := none) (n := 0) (m := 0) (by kernel_rfl)))
      replace HAC3 := hid (HAC3.out.keptC K M.r0 (by decide))
      have HWA1 := hid xA
      replace M := Mem.callPut (L1 := []) M (Or.inl (by simp)) K hr3
      clear K hr3 xA
      simp only [List.cons_append, List.nil_append] at M
      go_wp2_with fail
      refine S_done ?_
      go_wp2_with fail
      refine S_region (by kernel_rfl) ?_
      replace HNV := hid (HNV.out.kept (Kept.refl [] _).drew)
      replace HBV := hid (HBV.out.kept (Kept.refl [] _).drew)
      replace HCU := hid (HCU.out.kept (Kept.refl [] _).drew)
      replace HNB := hid (HNB.out.kept (Kept.refl [] _).drew)
      replace HBB0 := hid (HBB0.out.kept (Kept.refl [] _).drew)
      replace HCB := hid (HCB.out.kept (Kept.refl [] _).drew)
      replace HN2 := hid (HN2.out.kept (Kept.refl [] _).drew)
      replace HB2 := hid (HB2.out.kept (Kept.refl [] _).drew)
      replace HLI := hid (HLI.out.kept (Kept.refl [] _).drew)
      replace HGV := hid (HGV.out.kept (Kept.refl [] _).drew)
      replace HPR := hid (HPR.out.kept (Kept.refl [] _).drew)
      replace HNN := hid (HNN.out.kept (Kept.refl [] _).drew)
      replace HBB := hid (HBB.out.kept (Kept.refl [] _).drew)
      replace HAC3 := hid (HAC3.out.kept (Kept.refl [] _).drew)
      replace HWA1 := hid (HWA1.out.kept (Kept.refl [] _).drew)
      refine E_stage 0 8 [0, 1, 2, 3, 4, 5, 6, 7] (by kernel_rfl) M.drew ?_
      clear M
      simp only [List.filterMap_cons, List.filterMap_nil, List.getElem?_cons_zero, List.getElem?_cons_succ]
      ((with_reducible apply E_run); rfl; rfl; (intro w M; go_simp; (try go_ints); (try simp only [↓IntWalk.iteOmega]); (try with_reducible rfl)); simp only [Act.put, List.setIfInBounds_toArray, List.set_cons_zero, List.set_cons_succ])
      ((with_reducible apply E_run); rfl; rfl; (intro w M; go_simp; (try go_ints); (try simp only [↓IntWalk.iteOmega]); (try with_reducible rfl)); simp only [Act.put, List.setIfInBounds_toArray, List.set_cons_zero, List.set_cons_succ])
      ((with_reducible apply E_run); rfl; rfl; (intro w M; go_simp; (try go_ints); (try simp only [↓IntWalk.iteOmega]); (try with_reducible rfl)); simp only [Act.put, List.setIfInBounds_toArray, List.set_cons_zero, List.set_cons_succ])
      ((with_reducible apply E_run); rfl; rfl; (intro w M; go_simp; (try go_ints); (try simp only [↓IntWalk.iteOmega]); (try with_reducible rfl)); simp only [Act.put, List.setIfInBounds_toArray, List.set_cons_zero, List.set_cons_succ])
      ((with_reducible apply E_run); rfl; rfl; (intro w M; go_simp; (try go_ints); (try simp only [↓IntWalk.iteOmega]); (try with_reducible rfl)); simp only [Act.put, List.setIfInBounds_toArray, List.set_cons_zero, List.set_cons_succ])
      ((with_reducible apply E_run); rfl; rfl; (intro w M; go_simp; (try go_ints); (try simp only [↓IntWalk.iteOmega]); (try with_reducible rfl)); simp only [Act.put, List.setIfInBounds_toArray, List.set_cons_zero, List.set_cons_succ])
      ((with_reducible apply E_run); rfl; rfl; (intro w M; go_simp; (try go_ints); (try simp only [↓IntWalk.iteOmega]); (try with_reducible rfl)); simp only [Act.put, List.setIfInBounds_toArray, List.set_cons_zero, List.set_cons_succ])
      ((with_reducible apply E_run (v := .agg ((ad 192).map n8).toArray)); rfl; rfl; (intro w M; exact run_loadX (n := 20) M.r0 rfl Salg.underlying45 rfl size45 (Nat.le_of_ble_eq_true (by kernel_rfl)) (show ((chL [va3, wa1, nilS, nilS, nilS, nilS, nilS, nilS, nilS, nilS, nilS, .int .u8 0, .int .u8 0, .int .u8 1, lim, gv, nilS, pr, tv] (ad 240) z20).toArray).extract 59 (59 + 20) = _ by kernel_rfl)); simp only [Act.put, List.setIfInBounds_toArray, List.set_cons_zero, List.set_cons_succ])
      refine E_nil ?_
      intro w30 K M
      replace HNV := hid (HNV.out.kept K)
      replace HBV := hid (HBV.out.kept K)
      replace HCU := hid (HCU.out.kept K)
      replace HNB := hid (HNB.out.kept K)
      replace HBB0 := hid (HBB0.out.kept K)
      replace HCB := hid (HCB.out.kept K)
      replace HN2 := hid (HN2.out.kept K)
      replace HB2 := hid (HB2.out.kept K)
      replace HLI := hid (HLI.out.kept K)
      replace HGV := hid (HGV.out.kept K)
      replace HPR := hid (HPR.out.kept K)
      replace HNN := hid (HNN.out.kept K)
      replace HBB := hid (HBB.out.kept K)
      replace HAC3 := hid (HAC3.out.kept K)
      replace HWA1 := hid (HWA1.out.kept K)
      clear K
      refine S_seg 8 9 (by kernel_rfl) (by decide) ?_
      simp only [List.take_succ_cons, List.take_zero, List.drop_zero, List.drop_succ_cons, Nat.sub_zero, Nat.reduceSub]
      go_wp2_with fail
      refine (warm_any c 119 _ _ la1 (ad 192) _ M.r0 (show (chL [va3, wa1, nilS, nilS, nilS, nilS, nilS, nilS, nilS, nilS, nilS, .int .u8 0, .int .u8 0, .int .u8 1, lim, gv, nilS, pr, tv] (ad 240) z20).toArray[1]? = some (wa1) by kernel_rfl) HWA1.out (ad_ok _ (by decide)) (by decide) (by decide)).mono ?_
      rintro e w31 ⟨rr, wa2, rfl, K, hr3, xA⟩
      rw [show (chL [va3, wa1, nilS, nilS, nilS, nilS, nilS, nilS, nilS, nilS, nilS, .int .u8 0, .int .u8 0, .int .u8 1, lim, gv, nilS, pr, tv] (ad 240) z20).toArray.setIfInBounds 1 wa2 = (chL [va3, wa2, nilS, nilS, nilS, nilS, nilS, nilS, nilS, nilS, nilS, .int .u8 0, .int .u8 0, .int .u8 1, lim, gv, nilS, pr, tv] (ad 240) z20).toArray from by kernel_rfl] at hr3
      replace HNV := hid (HNV.out.keptC K M.r0 (not_bytes_at (i := 2) (p := none) (n := 0) (m := 0) (by kernel_rfl)))
      replace HBV := hid (HBV.out.keptC K M.r0 (not_bytes_at (i := 2) (p := none) (n := 0) (m := 0) (by kernel_rfl)))
      replace HCU := hid (HCU.out.keptC K M.r0 (not_bytes_at (i := 2) (p := none) (n := 0) (m := 0) (by kernel_rfl)))
      replace HNB := hid (HNB.out.keptC K M.r0 (not_bytes_at (i := 2) (p := none) (n := 0) (m := 0) (by kernel_rfl)))
      replace HBB0 := hid (HBB0.out.keptC K M.r0 (not_bytes_at (i := 2) (p := none) (n := 0) (m := 0) (by kernel_rfl)))
      replace HCB := hid (HCB.out.keptC K M.r0 (not_bytes_at (i := 2) (p := none) (n := 0) (m := 0) (by kernel_rfl)))
      replace HN2 := hid (HN2.out.keptC K M.r0 (not_bytes_at (i := 2) (p := none) (n := 0) (m := 0) (by kernel_rfl)))
      replace HB2 := hid (HB2.out.keptC K M.r0 (not_bytes_at (i := 2) (p := none) (n := 0) (m := 0) (by kernel_rfl)))
      replace HLI := hid (HLI.out.keptC K M.r0 (not_bytes_at (i := 2) (p := none) (n := 0) (m := 0) (by kernel_rfl)))
      replace HGV := hid (HGV.out.keptC K M.r0 (not_bytes_at (i := 2) (p := none) (n := 0) (m := 0) (by kernel_rfl)))
      replace HPR := hid (HPR.out.keptC K M.r0 (not_bytes_at (i := 2) (p := none) (n := 0) (m := 0) (by kernel_rfl)))
      replace HNN := hid (HNN.out.keptC K M.r0 (not_bytes_at (i := 2) (p := none) (n := 0) (m := 0) (by kernel_rfl)))
      replace HBB := hid (HBB.out.keptC K M.r0 (not_bytes_at (i := 2) (p := none) (n := 0) (m := 0) (by kernel_rfl)))
      replace HAC3 := hid (HAC3.out.keptC K M.r0 (by decide))
      have HWA2 := hid xA
      replace M := Mem.callPut (L1 := []) M (Or.inl (by simp)) K hr3
      clear K hr3 xA
      simp only [List.cons_append, List.nil_append] at M
      clear HWA1
      go_wp2_with fail
      refine S_done ?_
      go_wp2_with fail
      refine S_region (by kernel_rfl) ?_
      replace HNV := hid (HNV.out.kept (Kept.refl [] _).drew)
      replace HBV := hid (HBV.out.kept (Kept.refl [] _).drew)
      replace HCU := hid (HCU.out.kept (Kept.refl [] _).drew)
      replace HNB := hid (HNB.out.kept (Kept.refl [] _).drew)
      replace HBB0 := hid (HBB0.out.kept (Kept.refl [] _).drew)
      replace HCB := hid (HCB.out.kept (Kept.refl [] _).drew)
      replace HN2 := hid (HN2.out.kept (Kept.refl [] _).drew)
      replace HB2 := hid (HB2.out.kept (Kept.refl [] _).drew)
      replace HLI := hid (HLI.out.kept (Kept.refl [] _).drew)
      replace HGV := hid (HGV.out.kept (Kept.refl [] _).drew)
      replace HPR := hid (HPR.out.kept (Kept.refl [] _).drew)
      replace HNN := hid (HNN.out.kept (Kept.refl [] _).drew)
      replace HBB := hid (HBB.out.kept (Kept.refl [] _).drew)
      replace HAC3 := hid (HAC3.out.kept (Kept.refl [] _).drew)
      replace HWA2 := hid (HWA2.out.kept (Kept.refl [] _).drew)
      refine E_stage 0 4 [0, 1, 2, 3] (by kernel_rfl) M.drew ?_
      clear M
      simp only [List.filterMap_cons, List.filterMap_nil, List.getElem?_cons_zero, List.getElem?_cons_succ]
      ((with_reducible apply E_run); rfl; rfl; (intro w M; go_simp; (try go_ints); (try simp only [↓IntWalk.iteOmega]); (try with_reducible rfl)); simp only [Act.put, List.setIfInBounds_toArray, List.set_cons_zero, List.set_cons_succ])
      ((with_reducible apply E_run); rfl; rfl; (intro w M; go_simp; (try go_ints); (try simp only [↓IntWalk.iteOmega]); (try with_reducible rfl)); simp only [Act.put, List.setIfInBounds_toArray, List.set_cons_zero, List.set_cons_succ])
      ((with_reducible apply E_run); rfl; rfl; (intro w M; go_simp; (try go_ints); (try simp only [↓IntWalk.iteOmega]); (try with_reducible rfl)); simp only [Act.put, List.setIfInBounds_toArray, List.set_cons_zero, List.set_cons_succ])
      ((with_reducible apply E_run); rfl; rfl; (intro w M; exact run_loadAll M.r1 rfl Salg.underlying45 rfl size45); simp only [Act.put, List.setIfInBounds_toArray, List.set_cons_zero, List.set_cons_succ])
      refine E_nil ?_
      intro w32 K M
      replace HNV := hid (HNV.out.kept K)
      replace HBV := hid (HBV.out.kept K)
      replace HCU := hid (HCU.out.kept K)
      replace HNB := hid (HNB.out.kept K)
      replace HBB0 := hid (HBB0.out.kept K)
      replace HCB := hid (HCB.out.kept K)
      replace HN2 := hid (HN2.out.kept K)
      replace HB2 := hid (HB2.out.kept K)
      replace HLI := hid (HLI.out.kept K)
      replace HGV := hid (HGV.out.kept K)
      replace HPR := hid (HPR.out.kept K)
      replace HNN := hid (HNN.out.kept K)
      replace HBB := hid (HBB.out.kept K)
      replace HAC3 := hid (HAC3.out.kept K)
      replace HWA2 := hid (HWA2.out.kept K)
      clear K
      refine S_seg 4 5 (by kernel_rfl) (by decide) ?_
      simp only [List.take_succ_cons, List.take_zero, List.drop_zero, List.drop_succ_cons, Nat.sub_zero, Nat.reduceSub]
      go_wp2_with fail
      refine (warm_any c 119 _ _ la2 (ad 1) _ M.r0 (show (chL [va3, wa2, nilS, nilS, nilS, nilS, nilS, nilS, nilS, nilS, nilS, .int .u8 0, .int .u8 0, .int .u8 1, lim, gv, nilS, pr, tv] (ad 240) z20).toArray[1]? = some (wa2) by kernel_rfl) HWA2.out (ad_ok _ (by decide)) (by decide) (by decide)).mono ?_
      rintro e w33 ⟨rr, wa3, rfl, K, hr3, xA⟩
      rw [show (chL [va3, wa2, nilS, nilS, nilS, nilS, nilS, nilS, nilS, nilS, nilS, .int .u8 0, .int .u8 0, .int .u8 1, lim, gv, nilS, pr, tv] (ad 240) z20).toArray.setIfInBounds 1 wa3 = (chL [va3, wa3, nilS, nilS, nilS, nilS, nilS, nilS, nilS, nilS, nilS, .int .u8 0, .int .u8 0, .int .u8 1, lim, gv, nilS, pr, tv] (ad 240) z20).toArray from by kernel_rfl] at hr3
      replace HNV := hid (HNV.out.keptC K M.r0 (not_bytes_at (i := 2) (p := none) (n := 0) (m := 0) (by kernel_rfl)))
      replace HBV := hid (HBV.out.keptC K M.r0 (not_bytes_at (i := 2) (p := none) (n := 0) (m := 0) (by kernel_rfl)))
      replace HCU := hid (HCU.out.keptC K M.r0 (not_bytes_at (i := 2) (p := none) (n := 0) (m := 0) (by kernel_rfl)))
      replace HNB := hid (HNB.out.keptC K M.r0 (not_bytes_at (i := 2) (p := none) (n := 0) (m := 0) (by kernel_rfl)))
      replace HBB0 := hid (HBB0.out.keptC K M.r0 (not_bytes_at (i := 2) (p := none) (n := 0) (m := 0) (by kernel_rfl)))
      replace HCB := hid (HCB.out.keptC K M.r0 (not_bytes_at (i := 2) (p := none) (n := 0) (m := 0) (by kernel_rfl)))
      replace HN2 := hid (HN2.out.keptC K M.r0 (not_bytes_at (i := 2) (p := none) (n := 0) (m := 0) (by kernel_rfl)))
      replace HB2 := hid (HB2.out.keptC K M.r0 (not_bytes_at (i := 2) (p := none) (n := 0) (m := 0) (by kernel_rfl)))
      replace HLI := hid (HLI.out.keptC K M.r0 (not_bytes_at (i := 2) (p := none) (n := 0) (m := 0) (by kernel_rfl)))
      replace HGV := hid (HGV.out.keptC K M.r0 (not_bytes_at (i := 2) (p := none) (n := 0) (m := 0) (by kernel_rfl)))
      replace HPR := hid (HPR.out.keptC K M.r0 (not_bytes_at (i := 2) (p := none) (n := 0) (m := 0) (by kernel_rfl)))
      replace HNN := hid (HNN.out.keptC K M.r0 (not_bytes_at (i := 2) (p := none) (n := 0) (m := 0) (by kernel_rfl)))
      replace HBB := hid (HBB.out.keptC K M.r0 (not_bytes_at (i := 2) (p := none) (n := 0) (m := 0) (by kernel_rfl)))
      replace HAC3 := hid (HAC3.out.keptC K M.r0 (by decide))
      have HWA3 := hid xA
      replace M := Mem.callPut (L1 := []) M (Or.inl (by simp)) K hr3
      clear K hr3 xA
      simp only [List.cons_append, List.nil_append] at M
      clear HWA2
      go_wp2_with fail
      refine S_done ?_
      go_wp2_with fail
      refine (warm_any c 119 _ _ la3 (ad 4) _ M.r0 (show (chL [va3, wa3, nilS, nilS, nilS, nilS, nilS, nilS, nilS, nilS, nilS, .int .u8 0, .int .u8 0, .int .u8 1, lim, gv, nilS, pr, tv] (ad 240) z20).toArray[1]? = some (wa3) by kernel_rfl) HWA3.out (ad_ok _ (by decide)) (by decide) (by decide)).mono ?_
      rintro e w34 ⟨rr, wa4, rfl, K, hr3, xA⟩
      rw [show (chL [va3, wa3, nilS, nilS, nilS, nilS, nilS, nilS, nilS, nilS, nilS, .int .u8 0, .int .u8 0, .int .u8 1, lim, gv, nilS, pr, tv] (ad 240) z20).toArray.setIfInBounds 1 wa4 = (chL [va3, wa4, nilS, nilS, nilS, nilS, nilS, nilS, nilS, nilS, nilS, .int .u8 0, .int .u8 0, .int .u8 1, lim, gv, nilS, pr, tv] (ad 240) z20).toArray from by kernel_rfl] at hr3
      replace HNV := hid (HNV.out.keptC K M.r0 (not_bytes_at (i := 2) (p := none) (n := 0) (m := 0) (by kernel_rfl)))
      replace HBV := hid (HBV.out.keptC K M.r0 (not_bytes_at (i := 2) (p := none) (n := 0) (m := 0) (by kernel_rfl)))
      replace HCU := hid (HCU.out.keptC K M.r0 (not_bytes_at (i := 2) (p := none) (n := 0) (m := 0) (by kernel_rfl)))
      replace HNB := hid (HNB.out.keptC K M.r0 (not_bytes_at (i := 2) (p := none) (n := 0) (m := 0) (by kernel_rfl)))
      replace HBB0 := hid (HBB0.out.keptC K M.r0 (not_bytes_at (i := 2) (p := none) (n := 0) (m := 0) (by kernel_rfl)))
      replace HCB := hid (HCB.out.keptC K M.r0 (not_bytes_at (i := 2) (p := none) (n := 0) (m := 0) (by kernel_rfl)))
      replace HN2 := hid (HN2.out.keptC K M.r0 (not_bytes_at (i := 2) (p := none) (n := 0) (m := 0) (by kernel_rfl)))
      replace HB2 := hid (HB2.out.keptC K M.r0 (not_bytes_at (i := 2) (p := none) (n := 0) (m := 0) (by kernel_rfl)))
      replace HLI := hid (HLI.out.keptC K M.r0 (not_bytes_at (i := 2) (p := none) (n := 0) (m := 0) (by kernel_rfl)))
      replace HGV := hid (HGV.out.keptC K M.r0 (not_bytes_at (i := 2) (p := none) (n := 0) (m := 0) (by kernel_rfl)))
      replace HPR := hid (HPR.out.keptC K M.r0 (not_bytes_at (i := 2) (p := none) (n := 0) (m := 0) (by kernel_rfl)))
      replace HNN := hid (HNN.out.keptC K M.r0 (not_bytes_at (i := 2) (p := none) (n := 0) (m := 0) (by kernel_rfl)))
      replace HBB := hid (HBB.out.keptC K M.r0 (not_bytes_at (i := 2) (p := none) (n := 0) (m := 0) (by kernel_rfl)))
      replace HAC3 := hid (HAC3.out.keptC K M.r0 (by decide))
      have HWA4 := hid xA
      replace M := Mem.callPut (L1 := []) M (Or.inl (by simp)) K hr3
      clear K hr3 xA
      simp only [List.cons_append, List.nil_append] at M
      clear HWA3
      go_wp2_with fail
      refine (warm_any c 119 _ _ la4 (ad 5) _ M.r0 (show (chL [va3, wa4, nilS, nilS, nilS, nilS, nilS, nilS, nilS, nilS, nilS, .int .u8 0, .int .u8 0, .int .u8 1, lim, gv, nilS, pr, tv] (ad 240) z20).toArray[1]? = some (wa4) by kernel_rfl) HWA4.out (ad_ok _ (by decide)) (by decide) (by decide)).mono ?_
      rintro e w35 ⟨rr, wa5, rfl, K, hr3, xA⟩
      rw [show (chL [va3, wa4, nilS, nilS, nilS, nilS, nilS, nilS, nilS, nilS, nilS, .int .u8 0, .int .u8 0, .int .u8 1, lim, gv, nilS, pr, tv] (ad 240) z20).toArray.setIfInBounds 1 wa5 = (chL [va3, wa5, nilS, nilS, nilS, nilS, nilS, nilS, nilS, nilS, nilS, .int .u8 0, .int .u8 0, .int .u8 1, lim, gv, nilS, pr, tv] (ad 240) z20).toArray from by kernel_rfl] at hr3
      replace HNV := hid (HNV.out.keptC K M.r0 (not_bytes_at (i := 2) (p := none) (n := 0) (m := 0) (by kernel_rfl)))
      replace HBV := hid (HBV.out.keptC K M.r0 (not_bytes_at (i := 2) (p := none) (n := 0) (m := 0) (by kernel_rfl)))
      replace HCU := hid (HCU.out.keptC K M.r0 (not_bytes_at (i := 2) (p := none) (n := 0) (m := 0) (by kernel_rfl)))
      replace HNB := hid (HNB.out.keptC K M.r0 (not_bytes_at (i := 2) (p := none) (n := 0) (m := 0) (by kernel_rfl)))
      replace HBB0 := hid (HBB0.out.keptC K M.r0 (not_bytes_at (i := 2) (p := none) (n := 0) (m := 0) (by kernel_rfl)))
      replace HCB := hid (HCB.out.keptC K M.r0 (not_bytes_at (i := 2) (p := none) (n := 0) (m := 0) (by kernel_rfl)))
      replace HN2 := hid (HN2.out.keptC K M.r0 (not_bytes_at (i := 2) (p := none) (n := 0) (m := 0) (by kernel_rfl)))
      replace HB2 := hid (HB2.out.keptC K M.r0 (not_bytes_at (i := 2) (p := none) (n := 0) (m := 0) (by kernel_rfl)))
      replace HLI := hid (HLI.out.keptC K M.r0 (not_bytes_at (i := 2) (p := none) (n := 0) (m := 0) (by kernel_rfl)))
      replace HGV := hid (HGV.out.keptC K M.r0 (not_bytes_at (i := 2) (p := none) (n := 0) (m := 0) (by kernel_rfl)))
      replace HPR := hid (HPR.out.keptC K M.r0 (not_bytes_at (i := 2) (p := none) (n := 0) (m := 0) (by kernel_rfl)))
      replace HNN := hid (HNN.out.keptC K M.r0 (not_bytes_at (i := 2) (p := none) (n := 0) (m := 0) (by kernel_rfl)))
      replace HBB := hid (HBB.out.keptC K M.r0 (not_bytes_at (i := 2) (p := none) (n := 0) (m := 0) (by kernel_rfl)))
      replace HAC3 := hid (HAC3.out.keptC K M.r0 (by decide))
      have HWA5 := hid xA
      replace M := Mem.callPut (L1 := []) M (Or.inl (by simp)) K hr3
      clear K hr3 xA
      simp only [List.cons_append, List.nil_append] at M
      clear HWA4
      go_wp2_with ((with_reducible apply W_loadCell); rfl; exact M.r3; exact (show (txP nilS).toArray[173]? = some (nilS) by kernel_rfl); exact Salg.underlying47; rfl; simp only [Act.put, List.setIfInBounds_toArray, List.set_cons_zero, List.set_cons_succ])
      go_loopw [186] (fun iv wx => iv = .int .i64 0 ∧ Mem w8 [c] [(c, .cells (chL [va3, wa5, nilS, nilS, nilS, nilS, nilS, nilS, nilS, nilS, nilS, .int .u8 0, .int .u8 0, .int .u8 1, lim, gv, nilS, pr, tv] (ad 240) z20).toArray 119 (0, 0)), (t8, .cells ((ad 1).map n8).toArray 45 (0, 0)), (t7, .cells (acB nv2 bv2).cells.toArray 128 (0, 0)), (tb, .cells (txP nilS).toArray 49 (0, 0))] wx ∧ NumV wx nv 1 ∧ NumV wx bv 0 ∧ NatV wx cu ds ∧ NumV wx nvb 1 ∧ NumV wx bvb 0 ∧ NatV wx cub dsb ∧ NumV wx nv2 0 ∧ NumV wx bv2 340282366920938463463374607431768211456 ∧ NumV wx lim 200000 ∧ NumV wx gv 179000 ∧ NumV wx pr 0 ∧ NumV wx nn 1 ∧ NumV wx bb 340282366920938463463374607431768211456 ∧ AcsV wx va3 (l3 nv bv cu nilS nvb bvb cub nn bb) ∧ AdsV wx wa5 la5) (fun _ _ => 0)
      case atStart => exact ⟨rfl, M, HNV.out, HBV.out, HCU.out, HNB.out, HBB0.out, HCB.out, HN2.out, HB2.out, HLI.out, HGV.out, HPR.out, HNN.out, HBB.out, HAC3.out, HWA5.out⟩
      case round =>
        clear M HNV HBV HCU HNB HBB0 HCB HN2 HB2 HLI HGV HPR HNN HBB HAC3 HWA5
        obtain ⟨rfl, M, xHNV, xHBV, xHCU, xHNB, xHBB0, xHCB, xHN2, xHB2, xHLI, xHGV, xHPR, xHNN, xHBB, xHAC3, xHWA5⟩ := hrel
        have HNV := hid xHNV
        have HBV := hid xHBV
        have HCU := hid xHCU
        have HNB := hid xHNB
        have HBB0 := hid xHBB0
        have HCB := hid xHCB
        have HN2 := hid xHN2
        have HB2 := hid xHB2
        have HLI := hid xHLI
        have HGV := hid xHGV
        have HPR := hid xHPR
        have HNN := hid xHNN
        have HBB := hid xHBB
        have HAC3 := hid xHAC3
        have HWA5 := hid xHWA5
        clear xHNV xHBV xHCU xHNB xHBB0 xHCB xHN2 xHB2 xHLI xHGV xHPR xHNN xHBB xHAC3 xHWA5
        go_wp2_with ((with_reducible apply W_stV (b := c) (o := 10) (v := nilS)); rfl; rfl; exact rfl; exact M.r0; exact size40; exact Nat.le_of_ble_eq_true (by kernel_rfl); intro wS K hr3; rw [show (chL [va3, wa5, nilS, nilS, nilS, nilS, nilS, nilS, nilS, nilS, nilS, .int .u8 0, .int .u8 0, .int .u8 1, lim, gv, nilS, pr, tv] (ad 240) z20).toArray.setIfInBounds 10 (nilS) = (chL [va3, wa5, nilS, nilS, nilS, nilS, nilS, nilS, nilS, nilS, nilS, .int .u8 0, .int .u8 0, .int .u8 1, lim, gv, nilS, pr, tv] (ad 240) z20).toArray from by kernel_rfl] at hr3; replace HNV := hid (HNV.out.keptC K M.r0 (not_bytes_at (i := 2) (p := none) (n := 0) (m := 0) (by kernel_rfl))); replace HBV := hid (HBV.out.keptC K M.r0 (not_bytes_at (i := 2) (p := none) (n := 0) (m := 0) (by kernel_rfl))); replace HCU := hid (HCU.out.keptC K M.r0 (not_bytes_at (i := 2) (p := none) (n := 0) (m := 0) (by kernel_rfl))); replace HNB := hid (HNB.out.keptC K M.r0 (not_bytes_at (i := 2) (p := none) (n := 0) (m := 0) (by kernel_rfl))); replace HBB0 := hid (HBB0.out.keptC K M.r0 (not_bytes_at (i := 2) (p := none) (n := 0) (m := 0) (by kernel_rfl))); replace HCB := hid (HCB.out.keptC K M.r0 (not_bytes_at (i := 2) (p := none) (n := 0) (m := 0) (by kernel_rfl))); replace HN2 := hid (HN2.out.keptC K M.r0 (not_bytes_at (i := 2) (p := none) (n := 0) (m := 0) (by kernel_rfl))); replace HB2 := hid (HB2.out.keptC K M.r0 (not_bytes_at (i := 2) (p := none) (n := 0) (m := 0) (by kernel_rfl))); replace HLI := hid (HLI.out.keptC K M.r0 (not_bytes_at (i := 2) (p := none) (n := 0) (m := 0) (by kernel_rfl))); replace HGV := hid (HGV.out.keptC K M.r0 (not_bytes_at (i := 2) (p := none) (n := 0) (m := 0) (by kernel_rfl))); replace HPR := hid (HPR.out.keptC K M.r0 (not_bytes_at (i := 2) (p := none) (n := 0) (m := 0) (by kernel_rfl))); replace HNN := hid (HNN.out.keptC K M.r0 (not_bytes_at (i := 2) (p := none) (n := 0) (m := 0) (by kernel_rfl))); replace HBB := hid (HBB.out.keptC K M.r0 (not_bytes_at (i := 2) (p := none) (n := 0) (m := 0) (by kernel_rfl))); replace HAC3 := hid (HAC3.out.keptC K M.r0 (by decide)); replace HWA5 := hid (HWA5.out.keptC K M.r0 (by decide)); replace M := Mem.callPut (L1 := []) M (Or.inl (by simp)) K hr3; clear K hr3; simp only [List.cons_append, List.nil_append] at M)
        refine S_region (by kernel_rfl) ?_
        replace HNV := hid (HNV.out.kept (Kept.refl [] _).drew)
        replace HBV := hid (HBV.out.kept (Kept.refl [] _).drew)
        replace HCU := hid (HCU.out.kept (Kept.refl [] _).drew)
        replace HNB := hid (HNB.out.kept (Kept.refl [] _).drew)
        replace HBB0 := hid (HBB0.out.kept (Kept.refl [] _).drew)
        replace HCB := hid (HCB.out.kept (Kept.refl [] _).drew)
        replace HN2 := hid (HN2.out.kept (Kept.refl [] _).drew)
        replace HB2 := hid (HB2.out.kept (Kept.refl [] _).drew)
        replace HLI := hid (HLI.out.kept (Kept.refl [] _).drew)
        replace HGV := hid (HGV.out.kept (Kept.refl [] _).drew)
        replace HPR := hid (HPR.out.kept (Kept.refl [] _).drew)
        replace HNN := hid (HNN.out.kept (Kept.refl [] _).drew)
        replace HBB := hid (HBB.out.kept (Kept.refl [] _).drew)
        replace HAC3 := hid (HAC3.out.kept (Kept.refl [] _).drew)
        replace HWA5 := hid (HWA5.out.kept (Kept.refl [] _).drew)
        refine E_float 0 12 [0, 1, 2, 3, 4, 5, 7, 8, 9, 6, 10] 11 17 _ (by kernel_rfl) ⟨⟨_, _, _, _, _, rfl, zero142, rfl⟩⟩ (by intro x hx; simp at hx; subst hx; exact hcw) M.drew ?_
        clear M
        simp only [List.filterMap_cons, List.filterMap_nil, List.getElem?_cons_zero, List.getElem?_cons_succ]
        ((with_reducible apply E_run); rfl; rfl; (intro w M; go_simp; (try go_ints); (try simp only [↓IntWalk.iteOmega]); (try with_reducible rfl)); simp only [Act.put, List.setIfInBounds_toArray, List.set_cons_zero, List.set_cons_succ])
        ((with_reducible apply E_run); rfl; rfl; (intro w M; go_simp; (try go_ints); (try simp only [↓IntWalk.iteOmega]); (try with_reducible rfl)); simp only [Act.put, List.setIfInBounds_toArray, List.set_cons_zero, List.set_cons_succ])
        ((with_reducible apply E_run); rfl; rfl; (intro w M; go_simp; (try go_ints); (try simp only [↓IntWalk.iteOmega]); (try with_reducible rfl)); simp only [Act.put, List.setIfInBounds_toArray, List.set_cons_zero, List.set_cons_succ])
        ((with_reducible apply E_run); rfl; rfl; (intro w M; exact run_loadCell (M.r0) rfl (show (chL [va3, wa5, nilS, nilS, nilS, nilS, nilS, nilS, nilS, nilS, nilS, .int .u8 0, .int .u8 0, .int .u8 1, lim, gv, nilS, pr, tv] (ad 240) z20).toArray[15]? = some (gv) by kernel_rfl) Salg.underlying89 rfl); simp only [Act.put, List.setIfInBounds_toArray, List.set_cons_zero, List.set_cons_succ])
        ((with_reducible apply E_run); rfl; rfl; (intro w M; go_simp; (try go_ints); (try simp only [↓IntWalk.iteOmega]); (try with_reducible rfl)); simp only [Act.put, List.setIfInBounds_toArray, List.set_cons_zero, List.set_cons_succ])
        ((with_reducible apply E_run); rfl; rfl; (intro w M; exact run_sliceArr (l := 0) (h := 32) (m := 32) rfl Salg.underlying46 size5 (by (first | exact Or.inl ⟨rfl, rfl⟩ | exact Or.inr ⟨_, _, _, rfl, rfl, by omega⟩)) (by (first | exact Or.inl ⟨rfl, rfl⟩ | exact Or.inr ⟨_, _, _, rfl, rfl, by omega⟩)) (by (first | exact Or.inl ⟨rfl, rfl⟩ | exact Or.inr ⟨_, _, _, rfl, rfl, by omega⟩)) (by first | exact Or.inl rfl | exact Or.inr rfl) (by omega) (by omega) (by omega) (by omega)); (try simp only [Nat.zero_add, Nat.sub_zero]); simp only [Act.put, List.setIfInBounds_toArray, List.set_cons_zero, List.set_cons_succ])
        ((with_reducible apply E_run); rfl; rfl; (intro w M; exact run_loadAll M.r1 rfl Salg.underlying45 rfl size45); simp only [Act.put, List.setIfInBounds_toArray, List.set_cons_zero, List.set_cons_succ])
        ((with_reducible apply E_run); rfl; rfl; (intro w M; go_simp; (try go_ints); (try simp only [↓IntWalk.iteOmega]); (try with_reducible rfl)); simp only [Act.put, List.setIfInBounds_toArray, List.set_cons_zero, List.set_cons_succ])
        ((with_reducible apply E_run (v := .agg ((ad 240).map n8).toArray)); rfl; rfl; (intro w M; exact run_loadX (n := 20) M.r3 rfl Salg.underlying45 rfl size45 (Nat.le_of_ble_eq_true (by kernel_rfl)) (show ((txP nilS).toArray).extract 0 (0 + 20) = _ by kernel_rfl)); simp only [Act.put, List.setIfInBounds_toArray, List.set_cons_zero, List.set_cons_succ])
        refine E_call rfl Salg.func64 (by kernel_rfl) (by kernel_rfl) (args := [.slice (some ⟨tb, 75, none⟩) 32 32]) rfl ?_
        intro w1 K M
        replace HNV := hid (HNV.out.kept K)
        replace HBV := hid (HBV.out.kept K)
        replace HCU := hid (HCU.out.kept K)
        replace HNB := hid (HNB.out.kept K)
        replace HBB0 := hid (HBB0.out.kept K)
        replace HCB := hid (HCB.out.kept K)
        replace HN2 := hid (HN2.out.kept K)
        replace HB2 := hid (HB2.out.kept K)
        replace HLI := hid (HLI.out.kept K)
        replace HGV := hid (HGV.out.kept K)
        replace HPR := hid (HPR.out.kept K)
        replace HNN := hid (HNN.out.kept K)
        replace HBB := hid (HBB.out.kept K)
        replace HAC3 := hid (HAC3.out.kept K)
        replace HWA5 := hid (HWA5.out.kept K)
        clear K
        refine (fromBE_at tb 75 49 32 _ (List.replicate 32 0) _ M.r3 tx_val (by decide) small32).mono ?_
        rintro e w36 ⟨vv, rfl, xHVV, K⟩
        have HVV := hid xHVV
        clear xHVV
        replace HNV := hid (HNV.out.kept K)
        replace HBV := hid (HBV.out.kept K)
        replace HCU := hid (HCU.out.kept K)
        replace HNB := hid (HNB.out.kept K)
        replace HBB0 := hid (HBB0.out.kept K)
        replace HCB := hid (HCB.out.kept K)
        replace HN2 := hid (HN2.out.kept K)
        replace HB2 := hid (HB2.out.kept K)
        replace HLI := hid (HLI.out.kept K)
        replace HGV := hid (HGV.out.kept K)
        replace HPR := hid (HPR.out.kept K)
        replace HNN := hid (HNN.out.kept K)
        replace HBB := hid (HBB.out.kept K)
        replace HAC3 := hid (HAC3.out.kept K)
        replace HWA5 := hid (HWA5.out.kept K)
        replace M := M.call K
        refine ⟨_, rfl, K.mono (by simp), M, ?_⟩
        clear K
        simp only [Act.put, List.setIfInBounds_toArray, List.set_cons_zero, List.set_cons_succ]
        rw [be_zero32] at HVV
        ((with_reducible apply E_run (v := .agg (frL gv vv nilS nilS (wrow nilS nilS nilS)).toArray)); rfl; rfl; (intro w M; obtain ⟨p0, q0, s0, e0⟩ := HGV.out.slice; obtain ⟨p1, q1, s1, e1⟩ := HVV.out.slice; subst e0 e1; kernel_rfl); simp only [Act.put, List.setIfInBounds_toArray, List.set_cons_zero, List.set_cons_succ])
        refine E_nil ?_
        intro w37 K M
        replace HNV := hid (HNV.out.kept K)
        replace HBV := hid (HBV.out.kept K)
        replace HCU := hid (HCU.out.kept K)
        replace HNB := hid (HNB.out.kept K)
        replace HBB0 := hid (HBB0.out.kept K)
        replace HCB := hid (HCB.out.kept K)
        replace HN2 := hid (HN2.out.kept K)
        replace HB2 := hid (HB2.out.kept K)
        replace HLI := hid (HLI.out.kept K)
        replace HGV := hid (HGV.out.kept K)
        replace HPR := hid (HPR.out.kept K)
        replace HNN := hid (HNN.out.kept K)
        replace HBB := hid (HBB.out.kept K)
        replace HAC3 := hid (HAC3.out.kept K)
        replace HWA5 := hid (HWA5.out.kept K)
        replace HVV := hid (HVV.out.kept K)
        clear K
        intro t17 w38 K ht17 M
        replace HNV := hid (HNV.out.kept K)
        replace HBV := hid (HBV.out.kept K)
        replace HCU := hid (HCU.out.kept K)
        replace HNB := hid (HNB.out.kept K)
        replace HBB0 := hid (HBB0.out.kept K)
        replace HCB := hid (HCB.out.kept K)
        replace HN2 := hid (HN2.out.kept K)
        replace HB2 := hid (HB2.out.kept K)
        replace HLI := hid (HLI.out.kept K)
        replace HGV := hid (HGV.out.kept K)
        replace HPR := hid (HPR.out.kept K)
        replace HNN := hid (HNN.out.kept K)
        replace HBB := hid (HBB.out.kept K)
        replace HAC3 := hid (HAC3.out.kept K)
        replace HWA5 := hid (HWA5.out.kept K)
        replace HVV := hid (HVV.out.kept K)
        clear K
        simp only [Act.put, List.setIfInBounds_toArray, List.set_cons_zero, List.set_cons_succ]
        refine S_seg 12 13 (by kernel_rfl) (by decide) ?_
        simp only [List.take_succ_cons, List.take_zero, List.drop_zero, List.drop_succ_cons, Nat.sub_zero, Nat.reduceSub]
        have HF1 := hid (oneT (frL_one HGV.out.one HVV.out.one (cu := nilS) rfl (iu := nilS) rfl (a0 := nilS) rfl (a1 := nilS) rfl (a3 := nilS) rfl))
        have NB17 := hid (not_bytes_at (cs := (([.int .u8 0, .int .u8 0, .bool false, nilS, nilS, nilS, nilS, nilS, nilS, nilS, nilS, nilS] ++ (z8 40 ++ wrow nilS nilS nilS)).toArray)) (tc := 142) (i := 6) (p := none) (n := 0) (m := 0) (by kernel_rfl))
        go_wp2_with ((with_reducible apply W_storeK (b := t17) (vs := (frL gv vv nilS nilS (wrow nilS nilS nilS)).toArray)); rfl; rfl; exact M.r0; exact size142; rfl; exact HF1.out; intro w39 K hr3; replace HNV := hid (HNV.out.keptC K M.r0 NB17.out); replace HBV := hid (HBV.out.keptC K M.r0 NB17.out); replace HCU := hid (HCU.out.keptC K M.r0 NB17.out); replace HNB := hid (HNB.out.keptC K M.r0 NB17.out); replace HBB0 := hid (HBB0.out.keptC K M.r0 NB17.out); replace HCB := hid (HCB.out.keptC K M.r0 NB17.out); replace HN2 := hid (HN2.out.keptC K M.r0 NB17.out); replace HB2 := hid (HB2.out.keptC K M.r0 NB17.out); replace HLI := hid (HLI.out.keptC K M.r0 NB17.out); replace HGV := hid (HGV.out.keptC K M.r0 NB17.out); replace HPR := hid (HPR.out.keptC K M.r0 NB17.out); replace HNN := hid (HNN.out.keptC K M.r0 NB17.out); replace HBB := hid (HBB.out.keptC K M.r0 NB17.out); replace HAC3 := hid (HAC3.out.keptC K M.r0 (by decide)); replace HWA5 := hid (HWA5.out.keptC K M.r0 (by decide)); replace HVV := hid (HVV.out.keptC K M.r0 NB17.out); replace M := Mem.callPut (L1 := []) M (Or.inr ht17) K hr3; clear K hr3; simp only [List.nil_append] at M)
        clear NB17
        refine S_done ?_
        go_wp2_with (first
          | ((with_reducible apply W_loadCell); rfl; exact M.r4; exact (show (txP nilS).toArray[40]? = some (.bool false) by kernel_rfl); exact Salg.underlying4; rfl; simp only [Act.put, List.setIfInBounds_toArray, List.set_cons_zero, List.set_cons_succ])
          | ((with_reducible apply W_loadAll); rfl; exact M.r2; exact Salg.underlying45; rfl; exact size45; simp only [Act.put, List.setIfInBounds_toArray, List.set_cons_zero, List.set_cons_succ]))
        refine (nativeAt_one _).mono ?_
        rintro e w40 ⟨rfl, K⟩
        replace HNV := hid (HNV.out.kept K)
        replace HBV := hid (HBV.out.kept K)
        replace HCU := hid (HCU.out.kept K)
        replace HNB := hid (HNB.out.kept K)
        replace HBB0 := hid (HBB0.out.kept K)
        replace HCB := hid (HCB.out.kept K)
        replace HN2 := hid (HN2.out.kept K)
        replace HB2 := hid (HB2.out.kept K)
        replace HLI := hid (HLI.out.kept K)
        replace HGV := hid (HGV.out.kept K)
        replace HPR := hid (HPR.out.kept K)
        replace HNN := hid (HNN.out.kept K)
        replace HBB := hid (HBB.out.kept K)
        replace HAC3 := hid (HAC3.out.kept K)
        replace HWA5 := hid (HWA5.out.kept K)
        replace HVV := hid (HVV.out.kept K)
        replace M := M.call K
        clear K
        go_wp2_with (first
          | ((with_reducible apply W_stV (b := t17) (o := 1) (v := .int .u8 0)); rfl; rfl; exact rfl; exact M.r0; exact size5; exact Nat.le_of_ble_eq_true (by kernel_rfl); intro wS K hr3; rw [show ((frL gv vv nilS nilS (wrow nilS nilS nilS)).toArray).setIfInBounds 1 (.int .u8 0) = (frL gv vv nilS nilS (wrow nilS nilS nilS)).toArray from by kernel_rfl] at hr3; have NB17 := hid (not_bytes_at (cs := (frL gv vv nilS nilS (wrow nilS nilS nilS)).toArray) (tc := 142) (i := 6) (p := none) (n := 0) (m := 0) (by kernel_rfl)); replace HNV := hid (HNV.out.keptC K M.r0 NB17.out); replace HBV := hid (HBV.out.keptC K M.r0 NB17.out); replace HCU := hid (HCU.out.keptC K M.r0 NB17.out); replace HNB := hid (HNB.out.keptC K M.r0 NB17.out); replace HBB0 := hid (HBB0.out.keptC K M.r0 NB17.out); replace HCB := hid (HCB.out.keptC K M.r0 NB17.out); replace HN2 := hid (HN2.out.keptC K M.r0 NB17.out); replace HB2 := hid (HB2.out.keptC K M.r0 NB17.out); replace HLI := hid (HLI.out.keptC K M.r0 NB17.out); replace HGV := hid (HGV.out.keptC K M.r0 NB17.out); replace HPR := hid (HPR.out.keptC K M.r0 NB17.out); replace HNN := hid (HNN.out.keptC K M.r0 NB17.out); replace HBB := hid (HBB.out.keptC K M.r0 NB17.out); replace HAC3 := hid (HAC3.out.keptC K M.r0 (by decide)); replace HWA5 := hid (HWA5.out.keptC K M.r0 (by decide)); replace HVV := hid (HVV.out.keptC K M.r0 NB17.out); clear NB17; replace M := Mem.callPut (L1 := []) M (Or.inr ht17) K hr3; clear K hr3; simp only [List.nil_append] at M)
          | ((with_reducible apply W_loadCell); rfl; exact M.r0; exact (show (frL gv vv nilS nilS (wrow nilS nilS nilS)).toArray[1]? = some (.int .u8 0) by kernel_rfl); exact Salg.underlying5; rfl; simp only [Act.put, List.setIfInBounds_toArray, List.set_cons_zero, List.set_cons_succ]))
        refine S_region (by kernel_rfl) ?_
        replace HNV := hid (HNV.out.kept (Kept.refl [] _).drew)
        replace HBV := hid (HBV.out.kept (Kept.refl [] _).drew)
        replace HCU := hid (HCU.out.kept (Kept.refl [] _).drew)
        replace HNB := hid (HNB.out.kept (Kept.refl [] _).drew)
        replace HBB0 := hid (HBB0.out.kept (Kept.refl [] _).drew)
        replace HCB := hid (HCB.out.kept (Kept.refl [] _).drew)
        replace HN2 := hid (HN2.out.kept (Kept.refl [] _).drew)
        replace HB2 := hid (HB2.out.kept (Kept.refl [] _).drew)
        replace HLI := hid (HLI.out.kept (Kept.refl [] _).drew)
        replace HGV := hid (HGV.out.kept (Kept.refl [] _).drew)
        replace HPR := hid (HPR.out.kept (Kept.refl [] _).drew)
        replace HNN := hid (HNN.out.kept (Kept.refl [] _).drew)
        replace HBB := hid (HBB.out.kept (Kept.refl [] _).drew)
        replace HAC3 := hid (HAC3.out.kept (Kept.refl [] _).drew)
        replace HWA5 := hid (HWA5.out.kept (Kept.refl [] _).drew)
        replace HVV := hid (HVV.out.kept (Kept.refl [] _).drew)
        refine E_stage 0 7 [0, 1, 2, 3, 4, 5, 6] (by kernel_rfl) M.drew ?_
        clear M
        simp only [List.filterMap_cons, List.filterMap_nil, List.getElem?_cons_zero, List.getElem?_cons_succ]
        ((with_reducible apply E_run); rfl; rfl; (intro w M; go_simp; (try go_ints); (try simp only [↓IntWalk.iteOmega]); (try with_reducible rfl)); simp only [Act.put, List.setIfInBounds_toArray, List.set_cons_zero, List.set_cons_succ])
        ((with_reducible apply E_run); rfl; rfl; (intro w M; go_simp; (try go_ints); (try simp only [↓IntWalk.iteOmega]); (try with_reducible rfl)); simp only [Act.put, List.setIfInBounds_toArray, List.set_cons_zero, List.set_cons_succ])
        ((with_reducible apply E_run); rfl; rfl; (intro w M; go_simp; (try go_ints); (try simp only [↓IntWalk.iteOmega]); (try with_reducible rfl)); simp only [Act.put, List.setIfInBounds_toArray, List.set_cons_zero, List.set_cons_succ])
        ((with_reducible apply E_run); rfl; rfl; (intro w M; exact run_loadAll M.r2 rfl Salg.underlying45 rfl size45); simp only [Act.put, List.setIfInBounds_toArray, List.set_cons_zero, List.set_cons_succ])
        refine E_call rfl Salg.func85 (by kernel_rfl) (by kernel_rfl) (args := [.pointer (some ⟨c, 0, none⟩), A8 (ad 1)]) rfl ?_
        intro w1 K M
        replace HNV := hid (HNV.out.kept K)
        replace HBV := hid (HBV.out.kept K)
        replace HCU := hid (HCU.out.kept K)
        replace HNB := hid (HNB.out.kept K)
        replace HBB0 := hid (HBB0.out.kept K)
        replace HCB := hid (HCB.out.kept K)
        replace HN2 := hid (HN2.out.kept K)
        replace HB2 := hid (HB2.out.kept K)
        replace HLI := hid (HLI.out.kept K)
        replace HGV := hid (HGV.out.kept K)
        replace HPR := hid (HPR.out.kept K)
        replace HNN := hid (HNN.out.kept K)
        replace HBB := hid (HBB.out.kept K)
        replace HAC3 := hid (HAC3.out.kept K)
        replace HWA5 := hid (HWA5.out.kept K)
        replace HVV := hid (HVV.out.kept K)
        clear K
        refine (account_1 c 119 _ _ nv bv cu nilS nvb bvb cub nn bb _ M.r1 (show (chL [va3, wa5, nilS, nilS, nilS, nilS, nilS, nilS, nilS, nilS, nilS, .int .u8 0, .int .u8 0, .int .u8 1, lim, gv, nilS, pr, tv] (ad 240) z20).toArray[0]? = some (va3) by kernel_rfl) HAC3.out).mono ?_
        rintro e w41 ⟨rfl, K⟩
        replace HNV := hid (HNV.out.kept K)
        replace HBV := hid (HBV.out.kept K)
        replace HCU := hid (HCU.out.kept K)
        replace HNB := hid (HNB.out.kept K)
        replace HBB0 := hid (HBB0.out.kept K)
        replace HCB := hid (HCB.out.kept K)
        replace HN2 := hid (HN2.out.kept K)
        replace HB2 := hid (HB2.out.kept K)
        replace HLI := hid (HLI.out.kept K)
        replace HGV := hid (HGV.out.kept K)
        replace HPR := hid (HPR.out.kept K)
        replace HNN := hid (HNN.out.kept K)
        replace HBB := hid (HBB.out.kept K)
        replace HAC3 := hid (HAC3.out.kept K)
        replace HWA5 := hid (HWA5.out.kept K)
        replace HVV := hid (HVV.out.kept K)
        replace M := M.call K
        refine ⟨_, rfl, trivial, M, ?_⟩
        clear K
        simp only [Act.put, List.setIfInBounds_toArray, List.set_cons_zero, List.set_cons_succ]
        ((with_reducible apply E_run (v := cu)); rfl; rfl; (intro w M; kernel_rfl); simp only [Act.put, List.setIfInBounds_toArray, List.set_cons_zero, List.set_cons_succ])
        refine E_call rfl Salg.func96 (by kernel_rfl) (by kernel_rfl) (args := [cu]) rfl ?_
        intro w1 K M
        replace HNV := hid (HNV.out.kept K)
        replace HBV := hid (HBV.out.kept K)
        replace HCU := hid (HCU.out.kept K)
        replace HNB := hid (HNB.out.kept K)
        replace HBB0 := hid (HBB0.out.kept K)
        replace HCB := hid (HCB.out.kept K)
        replace HN2 := hid (HN2.out.kept K)
        replace HB2 := hid (HB2.out.kept K)
        replace HLI := hid (HLI.out.kept K)
        replace HGV := hid (HGV.out.kept K)
        replace HPR := hid (HPR.out.kept K)
        replace HNN := hid (HNN.out.kept K)
        replace HBB := hid (HBB.out.kept K)
        replace HAC3 := hid (HAC3.out.kept K)
        replace HWA5 := hid (HWA5.out.kept K)
        replace HVV := hid (HVV.out.kept K)
        clear K
        refine (bytesOf_all cu ds _ HCU.out).mono ?_
        rintro e w42 ⟨cu2, rfl, xHC2, K⟩
        have HC2 := hid xHC2
        clear xHC2
        replace HNV := hid (HNV.out.kept K)
        replace HBV := hid (HBV.out.kept K)
        replace HCU := hid (HCU.out.kept K)
        replace HNB := hid (HNB.out.kept K)
        replace HBB0 := hid (HBB0.out.kept K)
        replace HCB := hid (HCB.out.kept K)
        replace HN2 := hid (HN2.out.kept K)
        replace HB2 := hid (HB2.out.kept K)
        replace HLI := hid (HLI.out.kept K)
        replace HGV := hid (HGV.out.kept K)
        replace HPR := hid (HPR.out.kept K)
        replace HNN := hid (HNN.out.kept K)
        replace HBB := hid (HBB.out.kept K)
        replace HAC3 := hid (HAC3.out.kept K)
        replace HWA5 := hid (HWA5.out.kept K)
        replace HVV := hid (HVV.out.kept K)
        replace M := M.call K
        refine ⟨_, rfl, trivial, M, ?_⟩
        clear K
        simp only [Act.put, List.setIfInBounds_toArray, List.set_cons_zero, List.set_cons_succ]
        refine E_nil ?_
        intro w43 K M
        replace HNV := hid (HNV.out.kept K)
        replace HBV := hid (HBV.out.kept K)
        replace HCU := hid (HCU.out.kept K)
        replace HNB := hid (HNB.out.kept K)
        replace HBB0 := hid (HBB0.out.kept K)
        replace HCB := hid (HCB.out.kept K)
        replace HN2 := hid (HN2.out.kept K)
        replace HB2 := hid (HB2.out.kept K)
        replace HLI := hid (HLI.out.kept K)
        replace HGV := hid (HGV.out.kept K)
        replace HPR := hid (HPR.out.kept K)
        replace HNN := hid (HNN.out.kept K)
        replace HBB := hid (HBB.out.kept K)
        replace HAC3 := hid (HAC3.out.kept K)
        replace HWA5 := hid (HWA5.out.kept K)
        replace HVV := hid (HVV.out.kept K)
        replace HC2 := hid (HC2.out.kept K)
        clear K
        refine S_seg 7 9 (by kernel_rfl) (by decide) ?_
        simp only [List.take_succ_cons, List.take_zero, List.drop_zero, List.drop_succ_cons, Nat.sub_zero, Nat.reduceSub]
        go_wp2_with ((with_reducible apply W_stV (b := t17) (o := 10) (v := cu2)); rfl; rfl; exact HC2.out.one; exact M.r0; exact size40; exact Nat.le_of_ble_eq_true (by kernel_rfl); intro wS K hr3; rw [show ((frL gv vv nilS nilS (wrow nilS nilS nilS)).toArray).setIfInBounds 10 (cu2) = (frL gv vv cu2 nilS (wrow nilS nilS nilS)).toArray from by kernel_rfl] at hr3; have NB17 := hid (not_bytes_at (cs := (frL gv vv nilS nilS (wrow nilS nilS nilS)).toArray) (tc := 142) (i := 6) (p := none) (n := 0) (m := 0) (by kernel_rfl)); replace HNV := hid (HNV.out.keptC K M.r0 NB17.out); replace HBV := hid (HBV.out.keptC K M.r0 NB17.out); replace HCU := hid (HCU.out.keptC K M.r0 NB17.out); replace HNB := hid (HNB.out.keptC K M.r0 NB17.out); replace HBB0 := hid (HBB0.out.keptC K M.r0 NB17.out); replace HCB := hid (HCB.out.keptC K M.r0 NB17.out); replace HN2 := hid (HN2.out.keptC K M.r0 NB17.out); replace HB2 := hid (HB2.out.keptC K M.r0 NB17.out); replace HLI := hid (HLI.out.keptC K M.r0 NB17.out); replace HGV := hid (HGV.out.keptC K M.r0 NB17.out); replace HPR := hid (HPR.out.keptC K M.r0 NB17.out); replace HNN := hid (HNN.out.keptC K M.r0 NB17.out); replace HBB := hid (HBB.out.keptC K M.r0 NB17.out); replace HAC3 := hid (HAC3.out.keptC K M.r0 (by decide)); replace HWA5 := hid (HWA5.out.keptC K M.r0 (by decide)); replace HVV := hid (HVV.out.keptC K M.r0 NB17.out); replace HC2 := hid (HC2.out.keptC K M.r0 NB17.out); clear NB17; replace M := Mem.callPut (L1 := []) M (Or.inr ht17) K hr3; clear K hr3; simp only [List.nil_append] at M)
        refine S_done ?_
        go_wp2_with ((with_reducible apply W_loadCell); rfl; exact M.r4; exact (show (txP nilS).toArray[107]? = some (nilS) by kernel_rfl); exact Salg.underlying40; rfl; simp only [Act.put, List.setIfInBounds_toArray, List.set_cons_zero, List.set_cons_succ])
        refine (bytesOf_nil _).mono ?_
        rintro e w44 ⟨rfl, hw⟩
        replace hw := hw.symm
        subst hw
        go_wp2_with (first
          | ((with_reducible apply W_stV (b := t17) (o := 11) (v := nilS)); rfl; rfl; exact rfl; exact M.r0; exact size40; exact Nat.le_of_ble_eq_true (by kernel_rfl); intro wS K hr3; rw [show ((frL gv vv cu2 nilS (wrow nilS nilS nilS)).toArray).setIfInBounds 11 (nilS) = (frL gv vv cu2 nilS (wrow nilS nilS nilS)).toArray from by kernel_rfl] at hr3; have NB17 := hid (not_bytes_at (cs := (frL gv vv cu2 nilS (wrow nilS nilS nilS)).toArray) (tc := 142) (i := 6) (p := none) (n := 0) (m := 0) (by kernel_rfl)); replace HNV := hid (HNV.out.keptC K M.r0 NB17.out); replace HBV := hid (HBV.out.keptC K M.r0 NB17.out); replace HCU := hid (HCU.out.keptC K M.r0 NB17.out); replace HNB := hid (HNB.out.keptC K M.r0 NB17.out); replace HBB0 := hid (HBB0.out.keptC K M.r0 NB17.out); replace HCB := hid (HCB.out.keptC K M.r0 NB17.out); replace HN2 := hid (HN2.out.keptC K M.r0 NB17.out); replace HB2 := hid (HB2.out.keptC K M.r0 NB17.out); replace HLI := hid (HLI.out.keptC K M.r0 NB17.out); replace HGV := hid (HGV.out.keptC K M.r0 NB17.out); replace HPR := hid (HPR.out.keptC K M.r0 NB17.out); replace HNN := hid (HNN.out.keptC K M.r0 NB17.out); replace HBB := hid (HBB.out.keptC K M.r0 NB17.out); replace HAC3 := hid (HAC3.out.keptC K M.r0 (by decide)); replace HWA5 := hid (HWA5.out.keptC K M.r0 (by decide)); replace HVV := hid (HVV.out.keptC K M.r0 NB17.out); replace HC2 := hid (HC2.out.keptC K M.r0 NB17.out); clear NB17; replace M := Mem.callPut (L1 := []) M (Or.inr ht17) K hr3; clear K hr3; simp only [List.nil_append] at M)
          | ((with_reducible apply W_stV (b := c) (o := 11) (v := .int .u8 1)); rfl; rfl; exact rfl; exact M.r1; exact size5; exact Nat.le_of_ble_eq_true (by kernel_rfl); intro wS K hr3; rw [show (chL [va3, wa5, nilS, nilS, nilS, nilS, nilS, nilS, nilS, nilS, nilS, .int .u8 0, .int .u8 0, .int .u8 1, lim, gv, nilS, pr, tv] (ad 240) z20).toArray.setIfInBounds 11 (.int .u8 1) = (chL [va3, wa5, nilS, nilS, nilS, nilS, nilS, nilS, nilS, nilS, nilS, .int .u8 1, .int .u8 0, .int .u8 1, lim, gv, nilS, pr, tv] (ad 240) z20).toArray from by kernel_rfl] at hr3; replace HNV := hid (HNV.out.keptC K M.r1 (not_bytes_at (i := 2) (p := none) (n := 0) (m := 0) (by kernel_rfl))); replace HBV := hid (HBV.out.keptC K M.r1 (not_bytes_at (i := 2) (p := none) (n := 0) (m := 0) (by kernel_rfl))); replace HCU := hid (HCU.out.keptC K M.r1 (not_bytes_at (i := 2) (p := none) (n := 0) (m := 0) (by kernel_rfl))); replace HNB := hid (HNB.out.keptC K M.r1 (not_bytes_at (i := 2) (p := none) (n := 0) (m := 0) (by kernel_rfl))); replace HBB0 := hid (HBB0.out.keptC K M.r1 (not_bytes_at (i := 2) (p := none) (n := 0) (m := 0) (by kernel_rfl))); replace HCB := hid (HCB.out.keptC K M.r1 (not_bytes_at (i := 2) (p := none) (n := 0) (m := 0) (by kernel_rfl))); replace HN2 := hid (HN2.out.keptC K M.r1 (not_bytes_at (i := 2) (p := none) (n := 0) (m := 0) (by kernel_rfl))); replace HB2 := hid (HB2.out.keptC K M.r1 (not_bytes_at (i := 2) (p := none) (n := 0) (m := 0) (by kernel_rfl))); replace HLI := hid (HLI.out.keptC K M.r1 (not_bytes_at (i := 2) (p := none) (n := 0) (m := 0) (by kernel_rfl))); replace HGV := hid (HGV.out.keptC K M.r1 (not_bytes_at (i := 2) (p := none) (n := 0) (m := 0) (by kernel_rfl))); replace HPR := hid (HPR.out.keptC K M.r1 (not_bytes_at (i := 2) (p := none) (n := 0) (m := 0) (by kernel_rfl))); replace HNN := hid (HNN.out.keptC K M.r1 (not_bytes_at (i := 2) (p := none) (n := 0) (m := 0) (by kernel_rfl))); replace HBB := hid (HBB.out.keptC K M.r1 (not_bytes_at (i := 2) (p := none) (n := 0) (m := 0) (by kernel_rfl))); replace HAC3 := hid (HAC3.out.keptC K M.r1 (by decide)); replace HWA5 := hid (HWA5.out.keptC K M.r1 (by decide)); replace HVV := hid (HVV.out.keptC K M.r1 (not_bytes_at (i := 2) (p := none) (n := 0) (m := 0) (by kernel_rfl))); replace HC2 := hid (HC2.out.keptC K M.r1 (not_bytes_at (i := 2) (p := none) (n := 0) (m := 0) (by kernel_rfl))); replace M := Mem.callPut (L1 := [(t17, _)]) M (Or.inl (by simp)) K hr3; clear K hr3; simp only [List.cons_append, List.nil_append] at M)
          | ((with_reducible apply W_loadAll); rfl; exact M.r0; exact Salg.underlying142; rfl; exact size142; simp only [Act.put, List.setIfInBounds_toArray, List.set_cons_zero, List.set_cons_succ]))
        have HRC := hid M.r1
        have h17c : t17 ≠ c := by omega
        refine (enter3_outer c 119 _ _ _ nv bv cu nvb bvb cub nn bb gv vv cu2 nilS 1 0 1 0 1 340282366920938463463374607431768211456 ds dsb la5 _ HRC.out (show (chL [va3, wa5, nilS, nilS, nilS, nilS, nilS, nilS, nilS, nilS, nilS, .int .u8 1, .int .u8 0, .int .u8 1, lim, gv, nilS, pr, tv] (ad 240) z20).toArray[0]? = some (va3) by kernel_rfl) (show (chL [va3, wa5, nilS, nilS, nilS, nilS, nilS, nilS, nilS, nilS, nilS, .int .u8 1, .int .u8 0, .int .u8 1, lim, gv, nilS, pr, tv] (ad 240) z20).toArray[1]? = some (wa5) by kernel_rfl) (show (chL [va3, wa5, nilS, nilS, nilS, nilS, nilS, nilS, nilS, nilS, nilS, .int .u8 1, .int .u8 0, .int .u8 1, lim, gv, nilS, pr, tv] (ad 240) z20).toArray[2]? = some (nilS) by kernel_rfl) (show (chL [va3, wa5, nilS, nilS, nilS, nilS, nilS, nilS, nilS, nilS, nilS, .int .u8 1, .int .u8 0, .int .u8 1, lim, gv, nilS, pr, tv] (ad 240) z20).toArray[3]? = some (nilS) by kernel_rfl) (show (chL [va3, wa5, nilS, nilS, nilS, nilS, nilS, nilS, nilS, nilS, nilS, .int .u8 1, .int .u8 0, .int .u8 1, lim, gv, nilS, pr, tv] (ad 240) z20).toArray[4]? = some (nilS) by kernel_rfl) (show (chL [va3, wa5, nilS, nilS, nilS, nilS, nilS, nilS, nilS, nilS, nilS, .int .u8 1, .int .u8 0, .int .u8 1, lim, gv, nilS, pr, tv] (ad 240) z20).toArray[5]? = some (nilS) by kernel_rfl) (show (chL [va3, wa5, nilS, nilS, nilS, nilS, nilS, nilS, nilS, nilS, nilS, .int .u8 1, .int .u8 0, .int .u8 1, lim, gv, nilS, pr, tv] (ad 240) z20).toArray[6]? = some (nilS) by kernel_rfl) (show (chL [va3, wa5, nilS, nilS, nilS, nilS, nilS, nilS, nilS, nilS, nilS, .int .u8 1, .int .u8 0, .int .u8 1, lim, gv, nilS, pr, tv] (ad 240) z20).toArray[7]? = some (nilS) by kernel_rfl) (show (chL [va3, wa5, nilS, nilS, nilS, nilS, nilS, nilS, nilS, nilS, nilS, .int .u8 1, .int .u8 0, .int .u8 1, lim, gv, nilS, pr, tv] (ad 240) z20).toArray[9]? = some (nilS) by kernel_rfl) (Nat.le_of_ble_eq_true (by kernel_rfl)) HAC3.out HWA5.out (by decide) (by decide) HNV.out HBV.out HCU.out HNB.out HBB0.out HCB.out HNN.out HBB.out (by decide) HVV.out HGV.out.one HC2.out.one rfl).mono ?_
        rintro e w45 ⟨rr, fb, cap, cur, a0, a1, a2, a3, rfl, K, hrc, hrf, hfb, hcur⟩
        replace HNV := hid (HNV.out.keptC K HRC.out (not_bytes_at (i := 2) (p := none) (n := 0) (m := 0) (by kernel_rfl)))
        replace HBV := hid (HBV.out.keptC K HRC.out (not_bytes_at (i := 2) (p := none) (n := 0) (m := 0) (by kernel_rfl)))
        replace HCU := hid (HCU.out.keptC K HRC.out (not_bytes_at (i := 2) (p := none) (n := 0) (m := 0) (by kernel_rfl)))
        replace HNB := hid (HNB.out.keptC K HRC.out (not_bytes_at (i := 2) (p := none) (n := 0) (m := 0) (by kernel_rfl)))
        replace HBB0 := hid (HBB0.out.keptC K HRC.out (not_bytes_at (i := 2) (p := none) (n := 0) (m := 0) (by kernel_rfl)))
        replace HCB := hid (HCB.out.keptC K HRC.out (not_bytes_at (i := 2) (p := none) (n := 0) (m := 0) (by kernel_rfl)))
        replace HN2 := hid (HN2.out.keptC K HRC.out (not_bytes_at (i := 2) (p := none) (n := 0) (m := 0) (by kernel_rfl)))
        replace HB2 := hid (HB2.out.keptC K HRC.out (not_bytes_at (i := 2) (p := none) (n := 0) (m := 0) (by kernel_rfl)))
        replace HLI := hid (HLI.out.keptC K HRC.out (not_bytes_at (i := 2) (p := none) (n := 0) (m := 0) (by kernel_rfl)))
        replace HGV := hid (HGV.out.keptC K HRC.out (not_bytes_at (i := 2) (p := none) (n := 0) (m := 0) (by kernel_rfl)))
        replace HPR := hid (HPR.out.keptC K HRC.out (not_bytes_at (i := 2) (p := none) (n := 0) (m := 0) (by kernel_rfl)))
        replace HNN := hid (HNN.out.keptC K HRC.out (not_bytes_at (i := 2) (p := none) (n := 0) (m := 0) (by kernel_rfl)))
        replace HBB := hid (HBB.out.keptC K HRC.out (not_bytes_at (i := 2) (p := none) (n := 0) (m := 0) (by kernel_rfl)))
        replace HAC3 := hid (HAC3.out.keptC K HRC.out (by decide))
        replace HWA5 := hid (HWA5.out.keptC K HRC.out (by decide))
        replace HVV := hid (HVV.out.keptC K HRC.out (not_bytes_at (i := 2) (p := none) (n := 0) (m := 0) (by kernel_rfl)))
        replace HC2 := hid (HC2.out.keptC K HRC.out (not_bytes_at (i := 2) (p := none) (n := 0) (m := 0) (by kernel_rfl)))
        have HCUR := hid hcur
        have HKF := hid (M.kept.trans K)
        have HFB := hid (Nat.le_trans (Nat.le_trans HK0.out.size M.kept.size) hfb)
        have HROWC : Hid (w45.heap[c]? = some (.cells (chL [va3, wa5, nilS, nilS, nilS, nilS, nilS, nilS, nilS, .slice (some ⟨fb, 0, none⟩) 1 cap, nilS, .int .u8 1, .int .u8 0, .int .u8 1, lim, gv, nilS, pr, tv] (ad 240) z20).toArray 119 (0, 0))) := hrc
        clear K hcur M hfb hrc
        go_wp2_with fail
        go_ret
        exact ⟨fb, cap, cur, va3, wa5, nn, bb, lim, pr, gv, vv, cu2, a0, a1, a2, a3, rfl, HROWC.out, hrf, HCUR.out, HAC3.out, HWA5.out, HNN.out, HBB.out, HLI.out, HPR.out, HGV.out, HVV.out, HC2.out, HFB.out, (HK0.out.mono (by simp)).trans HKF.out⟩
end Go.Proofs.YgcsalGreat

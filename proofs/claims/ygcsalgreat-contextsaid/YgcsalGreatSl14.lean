/-
  The walk of (*yp.State).enter: the outer frame, three accounts.
-/
import Derived.Test.YgcsalGreatSl11
set_option linter.unusedSimpArgs false
set_option linter.unusedVariables false
namespace Go.Own
theorem frL_one4 {gv vv cu iu a0 a1 a2 a3 : Value} (h1 : gv.oneCell' = true) (h2 : vv.oneCell' = true) (h3 : cu.oneCell' = true) (h4 : iu.oneCell' = true) (h5 : a0.oneCell' = true) (h6 : a1.oneCell' = true) (h8 : a2.oneCell' = true) (h7 : a3.oneCell' = true) : ∀ u ∈ frL gv vv cu iu (wrow4 a0 a1 a2 a3), u.oneCell' = true := by
  apply one_list
  have e : ((frL gv vv cu iu (wrow4 a0 a1 a2 a3)).all fun u => u.oneCell') = (gv.oneCell' && (vv.oneCell' && (cu.oneCell' && (iu.oneCell' && (a0.oneCell' && (a1.oneCell' && (a2.oneCell' && (a3.oneCell' && true)))))))) := by kernel_rfl
  rw [e, h1, h2, h3, h4, h5, h6, h8, h7]
  rfl
/-- A frame's cells at the head of a row. -/
def FrRow (cur : Array Value) (cap : Nat) (l : List Value) : Prop := (∀ k, k < 60 → cur[k]? = l[k]?) ∧ cur.size = cap * 60 ∧ cap ≤ maxLen ∧ 1 ≤ cap ∧ ∀ u ∈ l, u.oneCell' = true
theorem own_frame4 {w : World} {base : Nat} {v : Value} {xs : List Value} (h : w.ownsRow base 142 60 v 1 xs) (ho : ∀ u ∈ xs, u.oneCell' = true) : ∃ g cap cur, v = .slice (some ⟨g, 0, none⟩) 1 cap ∧ base ≤ g ∧ w.heap[g]? = some (.cells cur 142 (0, 0)) ∧ FrRow cur cap xs := by
  rcases h.2 with ⟨_, h1⟩ | ⟨g, cap, cur, h1, h2, h3, h4, h5, h6, h7⟩
  · omega
  · refine ⟨g, cap, cur, h1, h2, h3, fun k hk => ?_, h6, h5, h4, ho⟩
    rw [← h7, List.getElem?_take_of_lt (by omega)]
    simp
theorem WorldW.one {w : World} {a0 a1 a2 a3 : Value} {la : List (List Nat)} {mo : Option Nat} {so : Option (Nat × Nat)} {R N1 B1 N2 B2 N3 B3 : Nat} {ds1 ds2 : List Nat} (h : WorldW w a0 a1 a2 a3 la mo so R N1 B1 N2 B2 N3 B3 ds1 ds2) : a0.oneCell' = true ∧ a1.oneCell' = true ∧ a2.oneCell' = true ∧ a3.oneCell' = true := by
  obtain ⟨_, _, _, _, _, _, _, _, _, h1, h2, h3, h4, _⟩ := h
  exact ⟨own_one h1.own, own_one h2.own, h3.one, h4.one⟩
theorem wrow4_oneL {a0 a1 a2 a3 : Value} (h0 : a0.oneCell' = true) (h1 : a1.oneCell' = true) (h2 : a2.oneCell' = true) (h3 : a3.oneCell' = true) : ∀ u ∈ (Value.agg (wrow4 a0 a1 a2 a3).toArray).cells.toList, u.oneCell' = true := wrow4_one h0 h1 h2 h3
end Go.Own
namespace Go.Proofs.YgcsalGreat
open Go.RowKit Go.Own
set_option maxHeartbeats 4000000 in
set_option maxRecDepth 100000 in
theorem enter3_outer (c tc : Nat) (cs : Array Value) (va wa nv bv cu0 nvb bvb cub nv2 bv2 gv vv cu iu : Value) (N1 B1 Nb Bb N2 B2 : Nat) (ds dsb : List Nat) (la : List (List Nat)) (w : World) (hc : w.heap[c]? = some (.cells cs tc (0, 0))) (k0 : cs[0]? = some va) (k1 : cs[1]? = some wa) (k2 : cs[2]? = some nilS) (k3 : cs[3]? = some nilS) (k4 : cs[4]? = some nilS) (k5 : cs[5]? = some nilS) (k6 : cs[6]? = some nilS) (k7 : cs[7]? = some nilS) (k9 : cs[9]? = some nilS) (hsz : 179 ≤ cs.size)
    (hv : AcsV w va (l3 nv bv cu0 nilS nvb bvb cub nv2 bv2)) (hw : AdsV w wa la) (hl0 : 0 < la.length) (hl : la.length ≤ 20) (hnv : NumV w nv N1) (hbv : NumV w bv B1) (hcu : NatV w cu0 ds) (hnb2 : NumV w nvb Nb) (hbb2 : NumV w bvb Bb) (hcb2 : NatV w cub dsb) (hn2 : NumV w nv2 N2) (hb2 : NumV w bv2 B2) (hB : B2 < 256 ^ 200) (hvv : NumV w vv 0) (hg1 : gv.oneCell' = true) (hc1 : cu.oneCell' = true) (hi1 : iu.oneCell' = true) :
    Calls Salg.prog 98 #[.pointer (some ⟨c, 0, none⟩), .agg (frL gv vv cu iu (wrow nilS nilS nilS)).toArray] w fun e w' => ∃ (r : Value) (fb cap : Nat) (cur : Array Value) (a0 a1 a2 a3 : Value), e = .returned r ∧ Kept [c] w w' ∧ w'.heap[c]? = some (.cells ((cs.setIfInBounds 10 nilS).setIfInBounds 9 (.slice (some ⟨fb, 0, none⟩) 1 cap)) tc (0, 0)) ∧ w'.heap[fb]? = some (.cells cur 142 (0, 0)) ∧ w.heap.size ≤ fb ∧ FrRow cur cap (frL gv vv cu iu (wrow4 a0 a1 a2 a3)) := by
  have M := Mem.start w []
  have HCL := hid (fun w' (K : Kept [] w w') => clone3_nn c tc cs va wa nilS nilS nv bv cu0 nilS nvb bvb cub nv2 bv2 N1 B1 Nb Bb N2 B2 0 0 0 ds dsb la w' (K.row hc (by simp)) k0 k1 k2 k3 k4 k5 k6 k7 (hv.kept K) (hw.kept K) hl0 hl rfl rfl (nil_num _) (hnv.kept K) (hbv.kept K) (hcu.kept K) (hnb2.kept K) (hbb2.kept K) (hcb2.kept K) (hn2.kept K) (hb2.kept K))
  have HMV := hid (fun w' (K : Kept [] w w') => move_none3 c tc cs va nv bv cu0 nilS nvb bvb cub nv2 bv2 vv B2 w' (K.row hc (by simp)) k0 (hv.kept K) (hb2.kept K) hB (hvv.kept K))
  have HV1 := hid hvv.one
  clear hv hw hl0 hl hnv hbv hcu hnb2 hbb2 hcb2 hn2 hb2 hB hvv k0 k1 k2 k3 k4 k5 k6 k7
  have hcl : c < w.heap.size := lt_of_row hc
  go_enter Salg.func98, Salg.ntmps98
  go_wp2_with ((with_reducible apply L_box M); rfl; clear M; intro t3 w1 ht3 M; simp only [Act.put, List.setIfInBounds_toArray, List.set_cons_zero, List.set_cons_succ])
  refine (HCL.out _ M.kept).mono ?_
  rintro e w2 ⟨a0, a1, a2, a3, rfl, xWW, K⟩
  obtain ⟨y0, y1, y2, y3⟩ := xWW.one
  have X0 := hid y0
  have X1 := hid y1
  have X2 := hid y2
  have X3 := hid y3
  replace M := M.call K
  clear K xWW y0 y1 y2 y3
  have HONE := hid (wrow4_oneL X0.out X1.out X2.out X3.out)
  go_wp2_with (first
    | ((with_reducible apply W_stP (b := t3) (o := 52) (n := 8) (v := .agg (wrow4 a0 a1 a2 a3).toArray) (rs := (frL gv vv cu iu (wrow4 a0 a1 a2 a3)).toArray)); rfl; rfl; exact M.r0; exact size113; rfl; exact HONE.out; exact Nat.le_of_ble_eq_true (by kernel_rfl); kernel_rfl; intro w3 K hr3; replace M := Mem.callPut (L1 := []) M (Or.inr ht3) K hr3; clear K hr3; simp only [List.nil_append] at M)
    | ((with_reducible apply W_loadCell); rfl; exact M.r0; exact (show (frL gv vv cu iu (wrow4 a0 a1 a2 a3)).toArray[0]? = some (.int .u8 0) by kernel_rfl); exact Salg.underlying5; rfl; simp only [Act.put, List.setIfInBounds_toArray, List.set_cons_zero, List.set_cons_succ]))
  refine (creates_zero _).mono ?_
  rintro e w4 ⟨rfl, hw⟩
  replace hw := hw.symm
  subst hw
  go_wp2_with (first
    | ((with_reducible apply W_loadCell); rfl; exact M.r0; exact (show (frL gv vv cu iu (wrow4 a0 a1 a2 a3)).toArray[0]? = some (.int .u8 0) by kernel_rfl); exact Salg.underlying5; rfl; simp only [Act.put, List.setIfInBounds_toArray, List.set_cons_zero, List.set_cons_succ])
    | ((with_reducible apply W_loadCellG); rfl; rfl; exact M.r0; exact (show (frL gv vv cu iu (wrow4 a0 a1 a2 a3)).toArray[0]? = some (.int .u8 0) by kernel_rfl); exact Salg.underlying5; rfl; simp only [Act.put, List.setIfInBounds_toArray, List.set_cons_zero, List.set_cons_succ]))
  refine S_region (by kernel_rfl) ?_
  refine E_stage 0 10 [0, 1, 2, 3, 4, 5, 6, 7, 8, 9] (by kernel_rfl) M.drew ?_
  clear M
  simp only [List.filterMap_cons, List.filterMap_nil, List.getElem?_cons_zero, List.getElem?_cons_succ]
  ((with_reducible apply E_run); rfl; rfl; (intro w M; go_simp; (try go_ints); (try simp only [↓IntWalk.iteOmega]); (try with_reducible rfl)); simp only [Act.put, List.setIfInBounds_toArray, List.set_cons_zero, List.set_cons_succ])
  ((with_reducible apply E_run); rfl; rfl; (intro w M; go_simp; (try go_ints); (try simp only [↓IntWalk.iteOmega]); (try with_reducible rfl)); simp only [Act.put, List.setIfInBounds_toArray, List.set_cons_zero, List.set_cons_succ])
  ((with_reducible apply E_run); rfl; rfl; (intro w M; go_simp; (try go_ints); (try simp only [↓IntWalk.iteOmega]); (try with_reducible rfl)); simp only [Act.put, List.setIfInBounds_toArray, List.set_cons_zero, List.set_cons_succ])
  ((with_reducible apply E_run); rfl; rfl; (intro w M; go_simp; (try go_ints); (try simp only [↓IntWalk.iteOmega]); (try with_reducible rfl)); simp only [Act.put, List.setIfInBounds_toArray, List.set_cons_zero, List.set_cons_succ])
  ((with_reducible apply E_run (v := .agg ((ad 240).map n8).toArray)); rfl; rfl; (intro w M; exact run_loadX (n := 20) M.r0 rfl Salg.underlying45 rfl size45 (Nat.le_of_ble_eq_true (by kernel_rfl)) (show (frL gv vv cu iu (wrow4 a0 a1 a2 a3)).toArray.extract 32 (32 + 20) = _ by kernel_rfl)); simp only [Act.put, List.setIfInBounds_toArray, List.set_cons_zero, List.set_cons_succ])
  ((with_reducible apply E_run); rfl; rfl; (intro w M; go_simp; (try go_ints); (try simp only [↓IntWalk.iteOmega]); (try with_reducible rfl)); simp only [Act.put, List.setIfInBounds_toArray, List.set_cons_zero, List.set_cons_succ])
  ((with_reducible apply E_run (v := .agg ((ad 1).map n8).toArray)); rfl; rfl; (intro w M; exact run_loadX (n := 20) M.r0 rfl Salg.underlying45 rfl size45 (Nat.le_of_ble_eq_true (by kernel_rfl)) (show (frL gv vv cu iu (wrow4 a0 a1 a2 a3)).toArray.extract 12 (12 + 20) = _ by kernel_rfl)); simp only [Act.put, List.setIfInBounds_toArray, List.set_cons_zero, List.set_cons_succ])
  ((with_reducible apply E_run); rfl; rfl; (intro w M; go_simp; (try go_ints); (try simp only [↓IntWalk.iteOmega]); (try with_reducible rfl)); simp only [Act.put, List.setIfInBounds_toArray, List.set_cons_zero, List.set_cons_succ])
  ((with_reducible apply E_run); rfl; rfl; (intro w M; exact run_loadCell (M.r0) rfl (show (frL gv vv cu iu (wrow4 a0 a1 a2 a3)).toArray[5]? = some vv by kernel_rfl) Salg.underlying89 rfl); simp only [Act.put, List.setIfInBounds_toArray, List.set_cons_zero, List.set_cons_succ])
  refine E_call rfl Salg.func173 (by kernel_rfl) (by kernel_rfl) (args := [.pointer (some ⟨c, 0, none⟩), A8 (ad 240), A8 (ad 1), vv]) rfl ?_
  intro w1 K M
  clear K
  refine (HMV.out _ M.kept).mono ?_
  rintro e w5 ⟨rr, rfl, K⟩
  replace M := M.call K
  refine ⟨_, rfl, trivial, M, ?_⟩
  clear K
  simp only [Act.put, List.setIfInBounds_toArray, List.set_cons_zero, List.set_cons_succ]
  refine E_nil ?_
  intro w6 K M
  clear K
  refine S_done ?_
  have H3 := hid M.r0
  have h3c : c ≠ t3 := by omega
  replace M := M.into (M.kept.row hc (by simp)) (by intro p hp; simp at hp; subst hp; exact h3c)
  have h9b : (cs.setIfInBounds 10 nilS)[9]? = some nilS := (Array.getElem?_setIfInBounds_ne (by decide)).trans k9
  go_wp2_with ((with_reducible apply W_stV (b := c) (o := 10) (v := nilS)); rfl; rfl; rfl; exact M.r0; exact size40; omega; intro w7 K hr3; replace M := Mem.callPut (L1 := []) M (Or.inl (by simp)) K hr3; clear K hr3; simp only [List.nil_append] at M)
  refine S_region (by kernel_rfl) ?_
  refine E_stage 0 8 [0, 1, 2, 3, 4, 5, 6, 7] (by kernel_rfl) M.drew ?_
  clear M
  simp only [List.filterMap_cons, List.filterMap_nil, List.getElem?_cons_zero, List.getElem?_cons_succ]
  ((with_reducible apply E_run); rfl; rfl; (intro w M; go_simp; (try go_ints); (try simp only [↓IntWalk.iteOmega]); (try with_reducible rfl)); simp only [Act.put, List.setIfInBounds_toArray, List.set_cons_zero, List.set_cons_succ])
  ((with_reducible apply E_run); rfl; rfl; (intro w M; go_simp; (try go_ints); (try simp only [↓IntWalk.iteOmega]); (try with_reducible rfl)); simp only [Act.put, List.setIfInBounds_toArray, List.set_cons_zero, List.set_cons_succ])
  ((with_reducible apply E_run); rfl; rfl; (intro w M; go_simp; (try go_ints); (try simp only [↓IntWalk.iteOmega]); (try with_reducible rfl)); simp only [Act.put, List.setIfInBounds_toArray, List.set_cons_zero, List.set_cons_succ])
  ((with_reducible apply E_run); rfl; rfl; (intro w M; go_simp; (try go_ints); (try simp only [↓IntWalk.iteOmega]); (try with_reducible rfl)); simp only [Act.put, List.setIfInBounds_toArray, List.set_cons_zero, List.set_cons_succ])
  ((with_reducible apply E_run); rfl; rfl; (intro w M; exact run_loadCell (M.r0) rfl h9b Salg.underlying115 rfl); simp only [Act.put, List.setIfInBounds_toArray, List.set_cons_zero, List.set_cons_succ])
  ((with_reducible apply E_run); rfl; rfl; (intro w M; exact run_loadAll M.r1 rfl Salg.underlying142 rfl (by kernel_rfl)); simp only [Act.put, List.setIfInBounds_toArray, List.set_cons_zero, List.set_cons_succ])
  refine E_buildIt (vs := (frL gv vv cu iu (wrow4 a0 a1 a2 a3)).toArray) (s := 60) rfl rfl Salg.underlying115 size142 zero142s rfl (by decide) (by decide) ?_
  intro bn wa wb K1 hbn hbn2 K2 M
  clear K1 K2
  have hwb := M.kept.size
  simp only [Act.put, List.setIfInBounds_toArray, List.set_cons_zero, List.set_cons_succ]
  refine E_appendIt (base := w.heap.size) (n := 0) (m := 1) (s := 60) (bn := bn) (so := 0) (xs := []) (news := (frL gv vv cu iu (wrow4 a0 a1 a2 a3))) (cs := (frL gv vv cu iu (wrow4 a0 a1 a2 a3)).toArray) info142 Salg.underlying115 rfl (by decide) (by decide) rfl rfl (own_nil _ _ _ _) (by decide) M.r0 rfl (cells_news _) (frL_one4 hg1 HV1.out hc1 hi1 X0.out X1.out X2.out X3.out) (Nat.le_refl _) hwb (by intro p _ h; cases h) ?_
  clear M
  intro VV wc wd K1 M xO hb3 K2
  have HOW := hid xO
  clear xO K1 K2
  simp only [Act.put, List.setIfInBounds_toArray, List.set_cons_zero, List.set_cons_succ]
  refine E_nil ?_
  intro w9 K M
  replace HOW := hid (own_kept HOW.out K)
  clear K
  refine S_seg 8 11 (by kernel_rfl) (by decide) ?_
  simp only [List.take_succ_cons, List.take_zero, List.drop_zero, List.drop_succ_cons, Nat.sub_zero, Nat.reduceSub]
  have HVO : Hid (VV.oneCell' = true) := own_one HOW.out
  obtain ⟨fb, cap, cur, rfl, hfb, hrf, hcur⟩ := own_frame4 HOW.out (frL_one4 hg1 HV1.out hc1 hi1 X0.out X1.out X2.out X3.out)
  have hfc : fb ≠ c := by omega
  have HCUR := hid hcur
  clear hcur
  go_wp2_with ((with_reducible apply W_stV (b := c) (o := 9) (v := .slice (some ⟨fb, 0, none⟩) 1 cap)); rfl; rfl; rfl; exact M.r0; exact size115; (simp; omega); intro w10 K hr3; replace hrf := K.row hrf (by simpa using hfc); replace M := Mem.callPut (L1 := []) M (Or.inl (by simp)) K hr3; clear K hr3; simp only [List.nil_append] at M)
  refine S_done ?_
  go_wp2_with fail
  go_end0
  exact ⟨_, fb, cap, cur, a0, a1, a2, a3, rfl, M.kept, M.r0, hrf, hfb, HCUR.out⟩
end Go.Proofs.YgcsalGreat

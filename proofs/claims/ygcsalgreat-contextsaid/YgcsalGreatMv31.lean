/-
  The walk of (*yp.World).clone on two accounts.
-/
import Derived.Test.YgcsalGreatMv30
set_option linter.unusedSimpArgs false
set_option linter.unusedVariables false
namespace Go.Own
def wrow (a0 a1 a3 : Value) : List Value := [a0, a1, nilS, a3, nilS, nilS, nilS, nilS]
def zac : List Value := z8 20 ++ [nilS, nilS, nilS, nilS]
theorem wrow_size (a0 a1 a3 : Value) : (wrow a0 a1 a3).toArray.size = 8 := by kernel_rfl
theorem wrow_s0 (a0 a1 a3 v : Value) : (wrow a0 a1 a3).toArray.setIfInBounds 0 v = (wrow v a1 a3).toArray := by kernel_rfl
theorem wrow_s1 (a0 a1 a3 v : Value) : (wrow a0 a1 a3).toArray.setIfInBounds 1 v = (wrow a0 v a3).toArray := by kernel_rfl
theorem wrow_s6 (a0 a1 a3 : Value) : (wrow a0 a1 a3).toArray.setIfInBounds 6 nilS = (wrow a0 a1 a3).toArray := by kernel_rfl
theorem wrow_s7 (a0 a1 a3 : Value) : (wrow a0 a1 a3).toArray.setIfInBounds 7 nilS = (wrow a0 a1 a3).toArray := by kernel_rfl
theorem wrow_0 (a0 a1 a3 : Value) : (wrow a0 a1 a3).toArray[0]? = some a0 := by kernel_rfl
theorem wrow_one {a0 a1 a3 : Value} (h0 : a0.oneCell' = true) (h1 : a1.oneCell' = true) (h3 : a3.oneCell' = true) : ∀ u ∈ (wrow a0 a1 a3).toArray.toList, u.oneCell' = true := by
  apply oneL
  have e : ((wrow a0 a1 a3).all fun u => u.oneCell') = (a0.oneCell' && (a1.oneCell' && (true && (a3.oneCell' && true)))) := by kernel_rfl
  rw [e, h0, h1, h3]
  rfl
theorem AcsV.two {w : World} {v nv bv cu nv2 bv2 : Value} (h : AcsV w v [acA nv bv cu, acB nv2 bv2]) : ∃ g cap cur, v = .slice (some ⟨g, 0, none⟩) 2 cap ∧ w.heap[g]? = some (.cells cur 128 (0, 0)) ∧ 48 ≤ cur.size ∧ cur.extract 0 (0 + 24) = (acA nv bv cu).cells.toArray ∧ cur.extract 24 (24 + 24) = (acB nv2 bv2).cells.toArray := by
  obtain ⟨g, cap, cur, e1, e2, e3, e4⟩ := h.at (i := 0) (by simp)
  obtain ⟨g', cap', cur', e1', e2', e3', e4'⟩ := h.at (i := 1) (by simp)
  subst e1
  cases e1'
  rw [e2] at e2'
  cases e2'
  exact ⟨g, cap, cur, rfl, e2, by omega, e4, e4'⟩
end Go.Own
namespace Go.Proofs.YgcsalGreat
open Go.RowKit Go.Own
theorem zero113 : ((Salg.prog.info? 113).bind (·.zero)) = some (.agg (wrow nilS nilS nilS).toArray) := by kernel_rfl
theorem size113 : (Salg.prog.info? 113).map (·.size) = some 8 := by kernel_rfl
theorem guard108 : Salg.prog.eqGuardType Salg.prog.depth 108 = false := by kernel_rfl
theorem guard126 : Salg.prog.eqGuardType Salg.prog.depth 126 = false := by kernel_rfl
theorem guard111 : Salg.prog.eqGuardType Salg.prog.depth 111 = false := by kernel_rfl
theorem guard110 : Salg.prog.eqGuardType Salg.prog.depth 110 = false := by kernel_rfl

set_option maxHeartbeats 4000000 in
set_option maxRecDepth 100000 in
theorem clone_two (c tc : Nat) (cs : Array Value) (va wa nv bv cu nv2 bv2 : Value) (N1 B1 N2 B2 : Nat) (ds : List Nat) (la : List (List Nat)) (w : World) (hc : w.heap[c]? = some (.cells cs tc (0, 0))) (k0 : cs[0]? = some va) (k1 : cs[1]? = some wa) (k2 : cs[2]? = some nilS) (k3 : cs[3]? = some nilS) (k4 : cs[4]? = some nilS) (k5 : cs[5]? = some nilS) (k6 : cs[6]? = some nilS) (k7 : cs[7]? = some nilS)
    (hv : AcsV w va [acA nv bv cu, acB nv2 bv2]) (hw : AdsV w wa la) (hl0 : 0 < la.length) (hl : la.length ≤ 20) (hnv : NumV w nv N1) (hbv : NumV w bv B1) (hcu : NatV w cu ds) (hn2 : NumV w nv2 N2) (hb2 : NumV w bv2 B2) :
    Calls Salg.prog 171 #[.pointer (some ⟨c, 0, none⟩)] w fun e w' => ∃ a0 a1 a3 : Value, e = .returned (.agg (wrow a0 a1 a3).toArray) ∧ a0.oneCell' = true ∧ a1.oneCell' = true ∧ a3.oneCell' = true ∧ Kept [] w w' := by
  have M := Mem.start w []
  obtain ⟨g, cap, cur, rfl, hg, hsz, xe0, xe1⟩ := hv.two
  have HEX0 := hid xe0
  have HEX1 := hid xe1
  have HNV := hid hnv
  have HBV := hid hbv
  have HCU := hid hcu
  have HN2 := hid hn2
  have HB2 := hid hb2
  have HAD := hid (fun w' (K : Kept [] w w') => addrsOf_any wa la w' (hw.kept K) hl0 hl)
  clear xe0 xe1 hnv hbv hcu hn2 hb2 hv hw hl0 hl
  go_enter Salg.func171, Salg.ntmps171
  go_wp2_with ((with_reducible apply L_allocA (d := 2) M); exact zero113; clear M; intro t2 w1 ht2 M; simp only [Act.put, List.setIfInBounds_toArray, List.set_cons_zero, List.set_cons_succ])
  refine S_region (by kernel_rfl) ?_
  refine E_float 0 12 [0, 1, 2, 3, 5, 6, 7, 8, 4, 9, 10] 11 3 _ (by kernel_rfl) ⟨⟨_, _, _, _, _, rfl, zero113, rfl⟩⟩ (by simp) M.drew ?_
  clear M
  simp only [List.filterMap_cons, List.filterMap_nil, List.getElem?_cons_zero, List.getElem?_cons_succ]
  ((with_reducible apply E_run); rfl; rfl; (intro w M; go_simp; (try go_ints); (try simp only [↓IntWalk.iteOmega]); (try with_reducible rfl)); simp only [Act.put, List.setIfInBounds_toArray, List.set_cons_zero, List.set_cons_succ])
  ((with_reducible apply E_run); rfl; rfl; (intro w M; go_simp; (try go_ints); (try simp only [↓IntWalk.iteOmega]); (try with_reducible rfl)); simp only [Act.put, List.setIfInBounds_toArray, List.set_cons_zero, List.set_cons_succ])
  ((with_reducible apply E_run); rfl; rfl; (intro w M; go_simp; (try go_ints); (try simp only [↓IntWalk.iteOmega]); (try with_reducible rfl)); simp only [Act.put, List.setIfInBounds_toArray, List.set_cons_zero, List.set_cons_succ])
  ((with_reducible apply E_run); rfl; rfl; (intro w M; exact run_loadCell (M.kept.row hc (by simp)) rfl k3 Salg.underlying89 rfl); simp only [Act.put, List.setIfInBounds_toArray, List.set_cons_zero, List.set_cons_succ])
  ((with_reducible apply E_run); rfl; rfl; (intro w M; go_simp; (try go_ints); (try simp only [↓IntWalk.iteOmega]); (try with_reducible rfl)); simp only [Act.put, List.setIfInBounds_toArray, List.set_cons_zero, List.set_cons_succ])
  ((with_reducible apply E_run); rfl; rfl; (intro w M; go_simp; (try go_ints); (try simp only [↓IntWalk.iteOmega]); (try with_reducible rfl)); simp only [Act.put, List.setIfInBounds_toArray, List.set_cons_zero, List.set_cons_succ])
  ((with_reducible apply E_run); rfl; rfl; (intro w M; go_simp; (try go_ints); (try simp only [↓IntWalk.iteOmega]); (try with_reducible rfl)); simp only [Act.put, List.setIfInBounds_toArray, List.set_cons_zero, List.set_cons_succ])
  ((with_reducible apply E_run); rfl; rfl; (intro w M; exact run_loadCell (M.kept.row hc (by simp)) rfl k4 Salg.underlying63 rfl); simp only [Act.put, List.setIfInBounds_toArray, List.set_cons_zero, List.set_cons_succ])
  refine E_call rfl Salg.func210 (by kernel_rfl) (by kernel_rfl) (args := [nilS]) rfl ?_
  intro w1 K M
  clear K
  refine (natOf_all nilS 0 _ (nil_num _)).mono ?_
  rintro e w2 ⟨r3, rfl, xXR3, K⟩
  have XR3 := hid xXR3
  clear xXR3
  replace M := M.call K
  refine ⟨_, rfl, K.mono (by simp), M, ?_⟩
  clear K
  simp only [Act.put, List.setIfInBounds_toArray, List.set_cons_zero, List.set_cons_succ]
  refine E_call rfl Salg.func124 (by kernel_rfl) (by kernel_rfl) (args := [nilS]) rfl ?_
  intro w1 K M
  clear K
  refine (logsOf_nil _).mono ?_
  rintro e w3 ⟨rfl, hw⟩
  replace hw := hw.symm
  subst hw
  refine ⟨_, rfl, Kept.refl _ _, M, ?_⟩
  simp only [Act.put, List.setIfInBounds_toArray, List.set_cons_zero, List.set_cons_succ]
  have HR3 := hid XR3.out.one
  ((with_reducible apply E_run (v := .agg (wrow nilS nilS r3).toArray)); rfl; rfl; (intro w M; obtain ⟨p0, q0, s0, e0⟩ := XR3.out.slice; subst e0; kernel_rfl); simp only [Act.put, List.setIfInBounds_toArray, List.set_cons_zero, List.set_cons_succ])
  clear XR3
  refine E_nil ?_
  intro w4 K M
  clear K
  intro t3 w5 K ht3 M
  clear K
  simp only [Act.put, List.setIfInBounds_toArray, List.set_cons_zero, List.set_cons_succ]
  refine S_seg 12 13 (by kernel_rfl) (by decide) ?_
  simp only [List.take_succ_cons, List.take_zero, List.drop_zero, List.drop_succ_cons, Nat.sub_zero, Nat.reduceSub]
  have HONE := hid (wrow_one (a0 := nilS) (a1 := nilS) rfl rfl HR3.out)
  go_wp2_with ((with_reducible apply W_storeK (b := t3) (vs := (wrow nilS nilS r3).toArray)); rfl; rfl; exact M.r0; exact size113; rfl; exact HONE.out; intro w6 K hr3; replace M := Mem.callPut (L1 := []) M (Or.inr ht3) K hr3; clear K hr3; simp only [List.nil_append] at M)
  refine S_done ?_
  go_wp2_with (first
    | ((with_reducible apply W_loadCell); rfl; exact M.kept.row hc (by simp); exact k0; exact Salg.underlying108; rfl; simp only [Act.put, List.setIfInBounds_toArray, List.set_cons_zero, List.set_cons_succ])
    | ((with_reducible apply L_run); rfl; exact run_nonnil rfl rfl Salg.underlying108 guard108; (try simp only [Option.isNone_none, Option.isNone_some, Bool.not_true, Bool.not_false]); simp only [Act.put, List.setIfInBounds_toArray, List.set_cons_zero, List.set_cons_succ])
    | ((with_reducible apply W_makeV (n := 2) (s := 24) (z := .agg zac.toArray) (cs := (zac ++ zac).toArray) M); rfl; rfl; rfl; rfl; decide; exact Salg.underlying108; exact info128; rfl; decide; decide; decide; kernel_rfl; clear M; intro ab w7 hab hab2 KB M; clear KB hab2; simp only [Act.put, List.setIfInBounds_toArray, List.set_cons_zero, List.set_cons_succ])
    | ((with_reducible apply W_stV (b := t3) (o := 0) (v := (.slice (some ⟨ab, 0, none⟩) 2 2))); rfl; rfl; rfl; exact M.r1; exact size108; (rw [wrow_size]; decide); intro w8 K hr3; rw [wrow_s0] at hr3; replace M := Mem.callPut (L1 := [(ab, _)]) M (Or.inr ht3) K hr3; clear K hr3; simp only [List.cons_append, List.nil_append] at M))
  go_loopw [41] (fun iv wr => (iv = .int .i64 0 ∧ Mem w [] [(ab, .cells (zac ++ zac).toArray 128 (0, 0)), (t3, .cells (wrow (.slice (some ⟨ab, 0, none⟩) 2 2) nilS r3).toArray 113 (0, 0)), (t2, .cells (wrow nilS nilS nilS).toArray 113 (0, 0))] wr) ∨ (iv = .int .i64 1 ∧ ∃ n1 b1 c1 : Value, n1.oneCell' = true ∧ b1.oneCell' = true ∧ c1.oneCell' = true ∧ Mem w [] [(ab, .cells ((acA n1 b1 c1).cells ++ zac).toArray 128 (0, 0)), (t3, .cells (wrow (.slice (some ⟨ab, 0, none⟩) 2 2) nilS r3).toArray 113 (0, 0)), (t2, .cells (wrow nilS nilS nilS).toArray 113 (0, 0))] wr) ∨ (iv = .int .i64 2 ∧ ∃ n1 b1 c1 n2 b2 : Value, Mem w [] [(ab, .cells ((acA n1 b1 c1).cells ++ (acB n2 b2).cells).toArray 128 (0, 0)), (t3, .cells (wrow (.slice (some ⟨ab, 0, none⟩) 2 2) nilS r3).toArray 113 (0, 0)), (t2, .cells (wrow nilS nilS nilS).toArray 113 (0, 0))] wr)) (fun iv _ => (2 - intOf iv).toNat)
  case atStart => exact .inl ⟨rfl, M⟩
  case round =>
    clear M
    rcases hrel with ⟨rfl, M⟩ | ⟨rfl, n1, b1, c1, xn1, xb1, xc1, M⟩ | ⟨rfl, n1, b1, c1, n2, b2, M⟩
    · skip
      go_wp2_with (first
        | ((with_reducible apply W_loadX (b := g) (o := 0) (n := 24) (cs := cur) (vs := (acA nv bv cu).cells.toArray)); rfl; exact M.kept.row hg (by simp); exact Salg.underlying128; rfl; exact size128; omega; exact HEX0.out; simp only [Act.put, List.setIfInBounds_toArray, List.set_cons_zero, List.set_cons_succ])
        | ((with_reducible apply L_allocA (d := 5) M); exact zero128; clear M; intro t5 w1 ht5 M; simp only [Act.put, List.setIfInBounds_toArray, List.set_cons_zero, List.set_cons_succ])
        | ((with_reducible apply W_storeK (b := t5) (vs := (acA nv bv cu).cells.toArray)); rfl; rfl; exact M.r0; exact size128; rfl; exact oneT (ac_one HNV.out.one HBV.out.one HCU.out.one).1; intro w3 K hr3; replace M := Mem.callPut (L1 := []) M (Or.inr ht5) K hr3; clear K hr3; simp only [List.nil_append] at M))
      refine S_region (by kernel_rfl) ?_
      refine E_float 0 13 [0, 1, 2, 3, 5, 6, 8, 9, 4, 7, 10, 11] 12 6 _ (by kernel_rfl) ⟨⟨_, _, _, _, _, rfl, zero128, rfl⟩⟩ (by simp) M.drew ?_
      clear M
      simp only [List.filterMap_cons, List.filterMap_nil, List.getElem?_cons_zero, List.getElem?_cons_succ]
      ((with_reducible apply E_run); rfl; rfl; (intro w M; go_simp; (try go_ints); (try simp only [↓IntWalk.iteOmega]); (try with_reducible rfl)); simp only [Act.put, List.setIfInBounds_toArray, List.set_cons_zero, List.set_cons_succ])
      ((with_reducible apply E_run (v := .agg ((ad 1).map n8).toArray)); rfl; rfl; (intro w M; exact run_loadX (n := 20) M.r0 rfl Salg.underlying45 rfl size45 (Nat.le_of_ble_eq_true (by kernel_rfl)) (show (acA nv bv cu).cells.toArray.extract 0 (0 + 20) = _ by kernel_rfl)); simp only [Act.put, List.setIfInBounds_toArray, List.set_cons_zero, List.set_cons_succ])
      ((with_reducible apply E_run); rfl; rfl; (intro w M; go_simp; (try go_ints); (try simp only [↓IntWalk.iteOmega]); (try with_reducible rfl)); simp only [Act.put, List.setIfInBounds_toArray, List.set_cons_zero, List.set_cons_succ])
      ((with_reducible apply E_run); rfl; rfl; (intro w M; exact run_loadCell (M.r0) rfl (show (acA nv bv cu).cells.toArray[20]? = some nv by kernel_rfl) Salg.underlying89 rfl); simp only [Act.put, List.setIfInBounds_toArray, List.set_cons_zero, List.set_cons_succ])
      ((with_reducible apply E_run); rfl; rfl; (intro w M; go_simp; (try go_ints); (try simp only [↓IntWalk.iteOmega]); (try with_reducible rfl)); simp only [Act.put, List.setIfInBounds_toArray, List.set_cons_zero, List.set_cons_succ])
      ((with_reducible apply E_run); rfl; rfl; (intro w M; exact run_loadCell (M.r0) rfl (show (acA nv bv cu).cells.toArray[21]? = some bv by kernel_rfl) Salg.underlying89 rfl); simp only [Act.put, List.setIfInBounds_toArray, List.set_cons_zero, List.set_cons_succ])
      ((with_reducible apply E_run); rfl; rfl; (intro w M; go_simp; (try go_ints); (try simp only [↓IntWalk.iteOmega]); (try with_reducible rfl)); simp only [Act.put, List.setIfInBounds_toArray, List.set_cons_zero, List.set_cons_succ])
      ((with_reducible apply E_run); rfl; rfl; (intro w M; exact run_loadCell (M.r0) rfl (show (acA nv bv cu).cells.toArray[22]? = some cu by kernel_rfl) Salg.underlying40 rfl); simp only [Act.put, List.setIfInBounds_toArray, List.set_cons_zero, List.set_cons_succ])
      refine E_call rfl Salg.func210 (by kernel_rfl) (by kernel_rfl) (args := [nv]) rfl ?_
      intro w1 K M
      clear K
      refine (natOf_all nv N1 _ (HNV.out.kept M.kept)).mono ?_
      rintro e w4 ⟨n1, rfl, xXn1, K⟩
      have Xn1 := hid xXn1
      clear xXn1
      replace M := M.call K
      refine ⟨_, rfl, K.mono (by simp), M, ?_⟩
      clear K
      simp only [Act.put, List.setIfInBounds_toArray, List.set_cons_zero, List.set_cons_succ]
      refine E_call rfl Salg.func210 (by kernel_rfl) (by kernel_rfl) (args := [bv]) rfl ?_
      intro w1 K M
      clear K
      refine (natOf_all bv B1 _ (HBV.out.kept M.kept)).mono ?_
      rintro e w5 ⟨b1, rfl, xXb1, K⟩
      have Xb1 := hid xXb1
      clear xXb1
      replace M := M.call K
      refine ⟨_, rfl, K.mono (by simp), M, ?_⟩
      clear K
      simp only [Act.put, List.setIfInBounds_toArray, List.set_cons_zero, List.set_cons_succ]
      refine E_call rfl Salg.func96 (by kernel_rfl) (by kernel_rfl) (args := [cu]) rfl ?_
      intro w1 K M
      clear K
      refine (bytesOf_all cu ds _ (HCU.out.kept M.kept)).mono ?_
      rintro e w6 ⟨c1, rfl, xXc1, K⟩
      have Xc1 := hid xXc1
      clear xXc1
      replace M := M.call K
      refine ⟨_, rfl, K.mono (by simp), M, ?_⟩
      clear K
      simp only [Act.put, List.setIfInBounds_toArray, List.set_cons_zero, List.set_cons_succ]
      have Hn1 := hid Xn1.out.one
      have Hb1 := hid Xb1.out.one
      have Hc1 := hid Xc1.out.one
      ((with_reducible apply E_run (v := .agg (acA n1 b1 c1).cells.toArray)); rfl; rfl; (intro w M; obtain ⟨p0, q0, s0, e0⟩ := Xn1.out.slice; subst e0; obtain ⟨p1, q1, s1, e1⟩ := Xb1.out.slice; subst e1; obtain ⟨p2, q2, s2, e2⟩ := Xc1.out.slice; subst e2; kernel_rfl); simp only [Act.put, List.setIfInBounds_toArray, List.set_cons_zero, List.set_cons_succ])
      clear Xn1 Xb1 Xc1
      refine E_nil ?_
      intro w7 K M
      clear K
      intro t6 w8 K ht6 M
      clear K
      simp only [Act.put, List.setIfInBounds_toArray, List.set_cons_zero, List.set_cons_succ]
      refine S_seg 13 14 (by kernel_rfl) (by decide) ?_
      simp only [List.take_succ_cons, List.take_zero, List.drop_zero, List.drop_succ_cons, Nat.sub_zero, Nat.reduceSub]
      have HONE := hid (oneT (ac_one Hn1.out Hb1.out Hc1.out).1)
      go_wp2_with ((with_reducible apply W_storeK (b := t6) (vs := (acA n1 b1 c1).cells.toArray)); rfl; rfl; exact M.r0; exact size128; rfl; exact HONE.out; intro w3 K hr3; replace M := Mem.callPut (L1 := []) M (Or.inr ht6) K hr3; clear K hr3; simp only [List.nil_append] at M)
      refine S_done ?_
      go_wp2_with (first
        | ((with_reducible apply W_loadCell); rfl; exact M.r1; exact (show (acA nv bv cu).cells.toArray[23]? = some nilS by kernel_rfl); exact Salg.underlying126; rfl; simp only [Act.put, List.setIfInBounds_toArray, List.set_cons_zero, List.set_cons_succ])
        | ((with_reducible apply L_run); rfl; exact run_nonnil rfl rfl Salg.underlying126 guard126; (try simp only [Option.isNone_none, Option.isNone_some, Bool.not_true, Bool.not_false]); simp only [Act.put, List.setIfInBounds_toArray, List.set_cons_zero, List.set_cons_succ]))
      go_loopw [69] (fun iv wx => iv = .int .i64 0 ∧ Mem w [] [(t6, .cells (acA n1 b1 c1).cells.toArray 128 (0, 0)), (t5, .cells (acA nv bv cu).cells.toArray 128 (0, 0)), (ab, .cells (zac ++ zac).toArray 128 (0, 0)), (t3, .cells (wrow (.slice (some ⟨ab, 0, none⟩) 2 2) nilS r3).toArray 113 (0, 0)), (t2, .cells (wrow nilS nilS nilS).toArray 113 (0, 0))] wx) (fun _ _ => 0)
      case atStart => exact ⟨rfl, M⟩
      case round =>
        clear M
        obtain ⟨rfl, M⟩ := hrel
        go_wp2_with (first
          | ((with_reducible apply W_loadCell); rfl; exact M.r3; exact (wrow_0 _ _ _); exact Salg.underlying108; rfl; simp only [Act.put, List.setIfInBounds_toArray, List.set_cons_zero, List.set_cons_succ])
          | ((with_reducible apply W_loadAll); rfl; exact M.r0; exact Salg.underlying128; rfl; kernel_rfl; simp only [Act.put, List.setIfInBounds_toArray, List.set_cons_zero, List.set_cons_succ])
          | ((with_reducible apply W_stP (b := ab) (o := 0) (n := 24) (v := .agg (acA n1 b1 c1).cells.toArray) (rs := ((acA n1 b1 c1).cells ++ zac).toArray)); rfl; rfl; exact M.r2; exact size128; kernel_rfl; exact HONE.out; exact Nat.le_of_ble_eq_true (by kernel_rfl); kernel_rfl; intro w9 K hr3; replace M := Mem.callPut (L1 := [(t6, _), (t5, _)]) M (Or.inr hab) K hr3; clear K hr3; simp only [List.cons_append, List.nil_append] at M))
        go_roundw
        case rel => exact .inr (.inl ⟨by go_num, n1, b1, c1, Hn1.out, Hb1.out, Hc1.out, M.tail.tail⟩)
        case measure => decide
    · have Hn1 := hid xn1
      have Hb1 := hid xb1
      have Hc1 := hid xc1
      clear xn1 xb1 xc1
      go_wp2_with (first
        | ((with_reducible apply W_loadX (b := g) (o := 24) (n := 24) (cs := cur) (vs := (acB nv2 bv2).cells.toArray)); rfl; exact M.kept.row hg (by simp); exact Salg.underlying128; rfl; exact size128; omega; exact HEX1.out; simp only [Act.put, List.setIfInBounds_toArray, List.set_cons_zero, List.set_cons_succ])
        | ((with_reducible apply L_allocA (d := 5) M); exact zero128; clear M; intro t5 w1 ht5 M; simp only [Act.put, List.setIfInBounds_toArray, List.set_cons_zero, List.set_cons_succ])
        | ((with_reducible apply W_storeK (b := t5) (vs := (acB nv2 bv2).cells.toArray)); rfl; rfl; exact M.r0; exact size128; rfl; exact oneT (ac_one HN2.out.one HB2.out.one (cu := nilS) rfl).2; intro w3 K hr3; replace M := Mem.callPut (L1 := []) M (Or.inr ht5) K hr3; clear K hr3; simp only [List.nil_append] at M))
      refine S_region (by kernel_rfl) ?_
      refine E_float 0 13 [0, 1, 2, 3, 5, 6, 8, 9, 4, 7, 10, 11] 12 6 _ (by kernel_rfl) ⟨⟨_, _, _, _, _, rfl, zero128, rfl⟩⟩ (by simp) M.drew ?_
      clear M
      simp only [List.filterMap_cons, List.filterMap_nil, List.getElem?_cons_zero, List.getElem?_cons_succ]
      ((with_reducible apply E_run); rfl; rfl; (intro w M; go_simp; (try go_ints); (try simp only [↓IntWalk.iteOmega]); (try with_reducible rfl)); simp only [Act.put, List.setIfInBounds_toArray, List.set_cons_zero, List.set_cons_succ])
      ((with_reducible apply E_run (v := .agg ((ad 240).map n8).toArray)); rfl; rfl; (intro w M; exact run_loadX (n := 20) M.r0 rfl Salg.underlying45 rfl size45 (Nat.le_of_ble_eq_true (by kernel_rfl)) (show (acB nv2 bv2).cells.toArray.extract 0 (0 + 20) = _ by kernel_rfl)); simp only [Act.put, List.setIfInBounds_toArray, List.set_cons_zero, List.set_cons_succ])
      ((with_reducible apply E_run); rfl; rfl; (intro w M; go_simp; (try go_ints); (try simp only [↓IntWalk.iteOmega]); (try with_reducible rfl)); simp only [Act.put, List.setIfInBounds_toArray, List.set_cons_zero, List.set_cons_succ])
      ((with_reducible apply E_run); rfl; rfl; (intro w M; exact run_loadCell (M.r0) rfl (show (acB nv2 bv2).cells.toArray[20]? = some nv2 by kernel_rfl) Salg.underlying89 rfl); simp only [Act.put, List.setIfInBounds_toArray, List.set_cons_zero, List.set_cons_succ])
      ((with_reducible apply E_run); rfl; rfl; (intro w M; go_simp; (try go_ints); (try simp only [↓IntWalk.iteOmega]); (try with_reducible rfl)); simp only [Act.put, List.setIfInBounds_toArray, List.set_cons_zero, List.set_cons_succ])
      ((with_reducible apply E_run); rfl; rfl; (intro w M; exact run_loadCell (M.r0) rfl (show (acB nv2 bv2).cells.toArray[21]? = some bv2 by kernel_rfl) Salg.underlying89 rfl); simp only [Act.put, List.setIfInBounds_toArray, List.set_cons_zero, List.set_cons_succ])
      ((with_reducible apply E_run); rfl; rfl; (intro w M; go_simp; (try go_ints); (try simp only [↓IntWalk.iteOmega]); (try with_reducible rfl)); simp only [Act.put, List.setIfInBounds_toArray, List.set_cons_zero, List.set_cons_succ])
      ((with_reducible apply E_run); rfl; rfl; (intro w M; exact run_loadCell (M.r0) rfl (show (acB nv2 bv2).cells.toArray[22]? = some nilS by kernel_rfl) Salg.underlying40 rfl); simp only [Act.put, List.setIfInBounds_toArray, List.set_cons_zero, List.set_cons_succ])
      refine E_call rfl Salg.func210 (by kernel_rfl) (by kernel_rfl) (args := [nv2]) rfl ?_
      intro w1 K M
      clear K
      refine (natOf_all nv2 N2 _ (HN2.out.kept M.kept)).mono ?_
      rintro e w4 ⟨n2, rfl, xXn2, K⟩
      have Xn2 := hid xXn2
      clear xXn2
      replace M := M.call K
      refine ⟨_, rfl, K.mono (by simp), M, ?_⟩
      clear K
      simp only [Act.put, List.setIfInBounds_toArray, List.set_cons_zero, List.set_cons_succ]
      refine E_call rfl Salg.func210 (by kernel_rfl) (by kernel_rfl) (args := [bv2]) rfl ?_
      intro w1 K M
      clear K
      refine (natOf_all bv2 B2 _ (HB2.out.kept M.kept)).mono ?_
      rintro e w5 ⟨b2, rfl, xXb2, K⟩
      have Xb2 := hid xXb2
      clear xXb2
      replace M := M.call K
      refine ⟨_, rfl, K.mono (by simp), M, ?_⟩
      clear K
      simp only [Act.put, List.setIfInBounds_toArray, List.set_cons_zero, List.set_cons_succ]
      refine E_call rfl Salg.func96 (by kernel_rfl) (by kernel_rfl) (args := [nilS]) rfl ?_
      intro w1 K M
      clear K
      refine (bytesOf_nil _).mono ?_
      rintro e w6 ⟨rfl, hw⟩
      replace hw := hw.symm
      subst hw
      refine ⟨_, rfl, Kept.refl _ _, M, ?_⟩
      simp only [Act.put, List.setIfInBounds_toArray, List.set_cons_zero, List.set_cons_succ]
      have Hn2 := hid Xn2.out.one
      have Hb2 := hid Xb2.out.one
      ((with_reducible apply E_run (v := .agg (acB n2 b2).cells.toArray)); rfl; rfl; (intro w M; obtain ⟨p0, q0, s0, e0⟩ := Xn2.out.slice; subst e0; obtain ⟨p1, q1, s1, e1⟩ := Xb2.out.slice; subst e1; kernel_rfl); simp only [Act.put, List.setIfInBounds_toArray, List.set_cons_zero, List.set_cons_succ])
      clear Xn2 Xb2
      refine E_nil ?_
      intro w7 K M
      clear K
      intro t6 w8 K ht6 M
      clear K
      simp only [Act.put, List.setIfInBounds_toArray, List.set_cons_zero, List.set_cons_succ]
      refine S_seg 13 14 (by kernel_rfl) (by decide) ?_
      simp only [List.take_succ_cons, List.take_zero, List.drop_zero, List.drop_succ_cons, Nat.sub_zero, Nat.reduceSub]
      have HONE := hid (oneT (ac_one Hn2.out Hb2.out (cu := nilS) rfl).2)
      go_wp2_with ((with_reducible apply W_storeK (b := t6) (vs := (acB n2 b2).cells.toArray)); rfl; rfl; exact M.r0; exact size128; rfl; exact HONE.out; intro w3 K hr3; replace M := Mem.callPut (L1 := []) M (Or.inr ht6) K hr3; clear K hr3; simp only [List.nil_append] at M)
      refine S_done ?_
      go_wp2_with (first
        | ((with_reducible apply W_loadCell); rfl; exact M.r1; exact (show (acB nv2 bv2).cells.toArray[23]? = some nilS by kernel_rfl); exact Salg.underlying126; rfl; simp only [Act.put, List.setIfInBounds_toArray, List.set_cons_zero, List.set_cons_succ])
        | ((with_reducible apply L_run); rfl; exact run_nonnil rfl rfl Salg.underlying126 guard126; (try simp only [Option.isNone_none, Option.isNone_some, Bool.not_true, Bool.not_false]); simp only [Act.put, List.setIfInBounds_toArray, List.set_cons_zero, List.set_cons_succ]))
      go_loopw [69] (fun iv wx => iv = .int .i64 0 ∧ Mem w [] [(t6, .cells (acB n2 b2).cells.toArray 128 (0, 0)), (t5, .cells (acB nv2 bv2).cells.toArray 128 (0, 0)), (ab, .cells ((acA n1 b1 c1).cells ++ zac).toArray 128 (0, 0)), (t3, .cells (wrow (.slice (some ⟨ab, 0, none⟩) 2 2) nilS r3).toArray 113 (0, 0)), (t2, .cells (wrow nilS nilS nilS).toArray 113 (0, 0))] wx) (fun _ _ => 0)
      case atStart => exact ⟨rfl, M⟩
      case round =>
        clear M
        obtain ⟨rfl, M⟩ := hrel
        go_wp2_with (first
          | ((with_reducible apply W_loadCell); rfl; exact M.r3; exact (wrow_0 _ _ _); exact Salg.underlying108; rfl; simp only [Act.put, List.setIfInBounds_toArray, List.set_cons_zero, List.set_cons_succ])
          | ((with_reducible apply W_loadAll); rfl; exact M.r0; exact Salg.underlying128; rfl; kernel_rfl; simp only [Act.put, List.setIfInBounds_toArray, List.set_cons_zero, List.set_cons_succ])
          | ((with_reducible apply W_stP (b := ab) (o := 24) (n := 24) (v := .agg (acB n2 b2).cells.toArray) (rs := ((acA n1 b1 c1).cells ++ (acB n2 b2).cells).toArray)); rfl; rfl; exact M.r2; exact size128; kernel_rfl; exact HONE.out; exact Nat.le_of_ble_eq_true (by kernel_rfl); kernel_rfl; intro w9 K hr3; replace M := Mem.callPut (L1 := [(t6, _), (t5, _)]) M (Or.inr hab) K hr3; clear K hr3; simp only [List.cons_append, List.nil_append] at M))
        go_roundw
        case rel => exact .inr (.inr ⟨by go_num, n1, b1, c1, n2, b2, M.tail.tail⟩)
        case measure => decide
    · go_wp2_with ((with_reducible apply W_loadCell); rfl; exact M.kept.row hc (by simp); exact k1; exact Salg.underlying109; rfl; simp only [Act.put, List.setIfInBounds_toArray, List.set_cons_zero, List.set_cons_succ])
      refine (HAD.out _ M.kept).mono ?_
      rintro e w10 ⟨a1, rfl, xHA1, K⟩
      have HA1 := hid xHA1
      replace M := M.call K
      clear K xHA1
      go_wp2_with (first
        | ((with_reducible apply W_stV (b := t3) (o := 1) (v := a1)); rfl; rfl; exact HA1.out; exact M.r1; exact size109; (rw [wrow_size]; decide); intro w13 K hr3; rw [wrow_s1] at hr3; replace M := Mem.callPut (L1 := [(ab, _)]) M (Or.inr ht3) K hr3; clear K hr3; simp only [List.cons_append, List.nil_append] at M)
        | ((with_reducible apply W_loadCell); rfl; exact M.kept.row hc (by simp); exact k6; exact Salg.underlying109; rfl; simp only [Act.put, List.setIfInBounds_toArray, List.set_cons_zero, List.set_cons_succ]))
      refine (addrsOf_nil _).mono ?_
      rintro e w11 ⟨rfl, hw⟩
      replace hw := hw.symm
      subst hw
      go_wp2_with (first
        | ((with_reducible apply W_stV (b := t3) (o := 6) (v := nilS)); rfl; rfl; exact rfl; exact M.r1; exact size109; (rw [wrow_size]; decide); intro w13 K hr3; rw [wrow_s6] at hr3; replace M := Mem.callPut (L1 := [(ab, _)]) M (Or.inr ht3) K hr3; clear K hr3; simp only [List.cons_append, List.nil_append] at M)
        | ((with_reducible apply W_loadCell); rfl; exact M.kept.row hc (by simp); exact k7; exact Salg.underlying109; rfl; simp only [Act.put, List.setIfInBounds_toArray, List.set_cons_zero, List.set_cons_succ]))
      refine (addrsOf_nil _).mono ?_
      rintro e w12 ⟨rfl, hw⟩
      replace hw := hw.symm
      subst hw
      go_wp2_with (first
        | ((with_reducible apply W_stV (b := t3) (o := 7) (v := nilS)); rfl; rfl; exact rfl; exact M.r1; exact size109; (rw [wrow_size]; decide); intro w13 K hr3; rw [wrow_s7] at hr3; replace M := Mem.callPut (L1 := [(ab, _)]) M (Or.inr ht3) K hr3; clear K hr3; simp only [List.cons_append, List.nil_append] at M)
        | ((with_reducible apply W_loadCell); rfl; exact M.kept.row hc (by simp); exact k5; exact Salg.underlying111; rfl; simp only [Act.put, List.setIfInBounds_toArray, List.set_cons_zero, List.set_cons_succ])
        | ((with_reducible apply L_run); rfl; exact run_nonnil rfl rfl Salg.underlying111 guard111; (try simp only [Option.isNone_none, Option.isNone_some, Bool.not_true, Bool.not_false]); simp only [Act.put, List.setIfInBounds_toArray, List.set_cons_zero, List.set_cons_succ]))
      go_loopw [127] (fun iv wx => iv = .int .i64 0 ∧ Mem w [] [(ab, .cells ((acA n1 b1 c1).cells ++ (acB n2 b2).cells).toArray 128 (0, 0)), (t3, .cells (wrow (.slice (some ⟨ab, 0, none⟩) 2 2) a1 r3).toArray 113 (0, 0)), (t2, .cells (wrow nilS nilS nilS).toArray 113 (0, 0))] wx) (fun _ _ => 0)
      case atStart => exact ⟨rfl, M⟩
      case round =>
        clear M
        obtain ⟨rfl, M⟩ := hrel
        go_wp2_with (first
          | ((with_reducible apply W_loadCell); rfl; exact M.kept.row hc (by simp); exact k2; exact Salg.underlying110; rfl; simp only [Act.put, List.setIfInBounds_toArray, List.set_cons_zero, List.set_cons_succ])
          | ((with_reducible apply L_run); rfl; exact run_nonnil rfl rfl Salg.underlying110 guard110; (try simp only [Option.isNone_none, Option.isNone_some, Bool.not_true, Bool.not_false]); simp only [Act.put, List.setIfInBounds_toArray, List.set_cons_zero, List.set_cons_succ]))
        go_loopw [163] (fun iv wx => iv = .int .i64 0 ∧ Mem w [] [(ab, .cells ((acA n1 b1 c1).cells ++ (acB n2 b2).cells).toArray 128 (0, 0)), (t3, .cells (wrow (.slice (some ⟨ab, 0, none⟩) 2 2) a1 r3).toArray 113 (0, 0)), (t2, .cells (wrow nilS nilS nilS).toArray 113 (0, 0))] wx) (fun _ _ => 0)
        case atStart => exact ⟨rfl, M⟩
        case round =>
          clear M
          obtain ⟨rfl, M⟩ := hrel
          have HONE3 := hid (wrow_one (a0 := (.slice (some ⟨ab, 0, none⟩) 2 2)) rfl HA1.out HR3.out)
          go_wp2_with (first
            | ((with_reducible apply W_loadAll); rfl; exact M.r1; exact Salg.underlying113; rfl; exact size113; simp only [Act.put, List.setIfInBounds_toArray, List.set_cons_zero, List.set_cons_succ])
            | ((with_reducible apply W_storeK (b := t2) (vs := (wrow (.slice (some ⟨ab, 0, none⟩) 2 2) a1 r3).toArray)); rfl; rfl; exact M.r2; exact size113; rfl; exact HONE3.out; intro w14 K hr3; replace M := Mem.callPut (L1 := [(ab, _), (t3, _)]) M (Or.inr ht2) K hr3; clear K hr3; simp only [List.cons_append, List.nil_append] at M))
          exact ret_cell1 Salg.results171 rfl M.r2 Salg.underlying113 rfl size113 rfl ⟨_, _, _, rfl, rfl, HA1.out, HR3.out, M.kept⟩
end Go.Proofs.YgcsalGreat

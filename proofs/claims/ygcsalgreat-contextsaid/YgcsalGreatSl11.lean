/-
  The walk of (*yp.World).clone on three accounts (no slot, no mark).
-/
import Derived.Test.YgcsalGreatSl10
set_option linter.unusedSimpArgs false
set_option linter.unusedVariables false
namespace Go.Own
/-- A world's four cells that are not nil, and what they hold. -/
def WorldW (w : World) (a0 a1 a2 a3 : Value) (la : List (List Nat)) (mo : Option Nat) (so : Option (Nat × Nat)) (R N1 B1 N2 B2 N3 B3 : Nat) (ds1 ds2 : List Nat) : Prop := ∃ nv bv cu sl nv2 bv2 cu2 nv3 bv3, AcsV w a0 (l3 nv bv cu sl nv2 bv2 cu2 nv3 bv3) ∧ AdsV w a1 la ∧ MarkV w a2 mo ∧ NumV w a3 R ∧ SlotV w sl so ∧ NumV w nv N1 ∧ NumV w bv B1 ∧ NatV w cu ds1 ∧ NumV w nv2 N2 ∧ NumV w bv2 B2 ∧ NatV w cu2 ds2 ∧ NumV w nv3 N3 ∧ NumV w bv3 B3
end Go.Own
namespace Go.Proofs.YgcsalGreat
open Go.RowKit Go.Own

set_option maxHeartbeats 4000000 in
set_option maxRecDepth 100000 in
theorem clone3_nn (c tc : Nat) (cs : Array Value) (va wa mv rv nv bv cu sl nv2 bv2 cu2 nv3 bv3 : Value) (N1 B1 N2 B2 N3 B3 R K V : Nat) (ds1 ds2 : List Nat) (la : List (List Nat)) (w : World) (hc : w.heap[c]? = some (.cells cs tc (0, 0))) (k0 : cs[0]? = some va) (k1 : cs[1]? = some wa) (k2 : cs[2]? = some mv) (k3 : cs[3]? = some rv) (k4 : cs[4]? = some nilS) (k5 : cs[5]? = some nilS) (k6 : cs[6]? = some nilS) (k7 : cs[7]? = some nilS)
    (hv : AcsV w va (l3 nv bv cu sl nv2 bv2 cu2 nv3 bv3)) (hw : AdsV w wa la) (hl0 : 0 < la.length) (hl : la.length ≤ 20) (hs : SlotV w sl none) (hm : MarkV w mv none) (hrv : NumV w rv R) (hnv : NumV w nv N1) (hbv : NumV w bv B1) (hcu : NatV w cu ds1) (hnv2 : NumV w nv2 N2) (hbv2 : NumV w bv2 B2) (hcu2 : NatV w cu2 ds2) (hnv3 : NumV w nv3 N3) (hbv3 : NumV w bv3 B3) :
    Calls Salg.prog 171 #[.pointer (some ⟨c, 0, none⟩)] w fun e w' => ∃ a0 a1 a2 a3 : Value, e = .returned (.agg (wrow4 a0 a1 a2 a3).toArray) ∧ WorldW w' a0 a1 a2 a3 la none none R N1 B1 N2 B2 N3 B3 ds1 ds2 ∧ Kept [] w w' := by
  have M := Mem.start w []
  have HSL1 := hid hs.one
  obtain rfl : sl = nilS := hs
  obtain rfl : mv = nilS := hm
  obtain ⟨g, cap, cur, rfl, hg, hsz, xe0, xe1, xe2⟩ := hv.three
  have HEX0 := hid xe0
  have HEX1 := hid xe1
  have HEX2 := hid xe2
  have Hnv := hid hnv
  have Hbv := hid hbv
  have Hcu := hid hcu
  have Hnv2 := hid hnv2
  have Hbv2 := hid hbv2
  have Hcu2 := hid hcu2
  have Hnv3 := hid hnv3
  have Hbv3 := hid hbv3
  have HRV := hid hrv
  have HADO := hid (fun w' (K : Kept [] w w') => addrsOf_all wa la w' (hw.kept K) hl0 hl)
  clear xe0 xe1 xe2 hnv hbv hcu hnv2 hbv2 hcu2 hnv3 hbv3 hv hw hl0 hl hrv
  go_enter Salg.func171, Salg.ntmps171
  go_wp2_with ((with_reducible apply L_allocA (d := 2) M); exact zero113'; clear M; intro t2 w1 ht2 M; simp only [Act.put, List.setIfInBounds_toArray, List.set_cons_zero, List.set_cons_succ])
  refine S_region (by kernel_rfl) ?_
  refine E_float 0 12 [0, 1, 2, 3, 5, 6, 7, 8, 4, 9, 10] 11 3 _ (by kernel_rfl) ⟨⟨_, _, _, _, _, rfl, zero113', rfl⟩⟩ (by simp) M.drew ?_
  clear M
  simp only [List.filterMap_cons, List.filterMap_nil, List.getElem?_cons_zero, List.getElem?_cons_succ]
  ((with_reducible apply E_run); rfl; rfl; (intro w M; go_simp; (try go_ints); (try simp only [↓IntWalk.iteOmega]); (try with_reducible rfl)); simp only [Act.put, List.setIfInBounds_toArray, List.set_cons_zero, List.set_cons_succ])
  ((with_reducible apply E_run); rfl; rfl; (intro w M; go_simp; (try go_ints); (try simp only [↓IntWalk.iteOmega]); (try with_reducible rfl)); simp only [Act.put, List.setIfInBounds_toArray, List.set_cons_zero, List.set_cons_succ])
  ((with_reducible apply E_run); rfl; rfl; (intro w M; go_simp; (try go_ints); (try simp only [↓IntWalk.iteOmega]); (try with_reducible rfl)); simp only [Act.put, List.setIfInBounds_toArray, List.set_cons_zero, List.set_cons_succ])
  ((with_reducible apply E_run); rfl; rfl; (intro w M; exact run_loadCell (M.kept.row hc (by simp)) rfl k3 Salg.underlying89 rfl); simp only [Act.put, List.setIfInBounds_toArray, List.set_cons_zero, List.set_cons_succ])
  ((with_reducible apply E_run); rfl; rfl; (intro w M; go_simp; (try go_ints); (try simp only [↓IntWalk.iteOmega]); (try with_reducible rfl)); simp only [Act.put, List.setIfInBounds_toArray, List.set_cons_zero, List.set_cons_succ])
  ((with_reducible apply E_run); rfl; rfl; (intro w M; go_simp; (try go_ints); (try simp only [↓IntWalk.iteOmega]); (try with_reducible rfl)); simp only [Act.put, List.setIfInBounds_toArray, List.set_cons_zero, List.set_cons_succ])
  ((with_reducible apply E_run); rfl; rfl; (intro w M; go_simp; (try go_ints); (try simp only [↓IntWalk.iteOmega]); (try with_reducible rfl)); simp only [Act.put, List.setIfInBounds_toArray, List.set_cons_zero, List.set_cons_succ])
  ((with_reducible apply E_run); rfl; rfl; (intro w M; exact run_loadCell (M.kept.row hc (by simp)) rfl k4 Salg.underlying63 rfl); simp only [Act.put, List.setIfInBounds_toArray, List.set_cons_zero, List.set_cons_succ])
  refine E_call rfl Salg.func210 (by kernel_rfl) (by kernel_rfl) (args := [rv]) rfl ?_
  intro w1 K M
  clear K
  refine (natOf_all rv R _ (HRV.out.kept M.kept)).mono ?_
  rintro e w2 ⟨r3, rfl, xHR3, K⟩
  have HR3 := hid xHR3
  clear xHR3
  replace M := M.call K
  refine ⟨_, rfl, K.mono (by simp), M, ?_⟩
  clear K
  simp only [Act.put, List.setIfInBounds_toArray, List.set_cons_zero, List.set_cons_succ]
  refine E_call rfl Salg.func124 (by kernel_rfl) (by kernel_rfl) (args := [nilS]) rfl ?_
  intro w1 K M
  replace HR3 := hid (HR3.out.kept K)
  clear K
  refine (logsOf_nil _).mono ?_
  rintro e w3 ⟨rfl, hw⟩
  replace hw := hw.symm
  subst hw
  refine ⟨_, rfl, Kept.refl _ _, M, ?_⟩
  simp only [Act.put, List.setIfInBounds_toArray, List.set_cons_zero, List.set_cons_succ]
  ((with_reducible apply E_run (v := .agg (wrow4 nilS nilS nilS r3).toArray)); rfl; rfl; (intro w M; obtain ⟨p0, q0, s0, e0⟩ := HR3.out.slice; subst e0; kernel_rfl); simp only [Act.put, List.setIfInBounds_toArray, List.set_cons_zero, List.set_cons_succ])
  refine E_nil ?_
  intro w4 K M
  replace HR3 := hid (HR3.out.kept K)
  clear K
  intro t3 w5 K ht3 M
  replace HR3 := hid (HR3.out.kept K)
  clear K
  simp only [Act.put, List.setIfInBounds_toArray, List.set_cons_zero, List.set_cons_succ]
  refine S_seg 12 13 (by kernel_rfl) (by decide) ?_
  simp only [List.take_succ_cons, List.take_zero, List.drop_zero, List.drop_succ_cons, Nat.sub_zero, Nat.reduceSub]
  have HONE := hid (wrow4_one (a0 := nilS) (a1 := nilS) (a2 := nilS) rfl rfl rfl HR3.out.one)
  go_wp2_with ((with_reducible apply W_storeK (b := t3) (vs := (wrow4 nilS nilS nilS r3).toArray)); rfl; rfl; exact M.r0; exact size113; rfl; exact HONE.out; intro w6 K hr3; replace HR3 := hid (HR3.out.keptC K M.r0 (wrow4_nb _ _ _ _)); replace M := Mem.callPut (L1 := []) M (Or.inr ht3) K hr3; clear K hr3; simp only [List.nil_append] at M)
  refine S_done ?_
  go_wp2_with (first
    | ((with_reducible apply W_loadCell); rfl; exact M.kept.row hc (by simp); exact k0; exact Salg.underlying108; rfl; simp only [Act.put, List.setIfInBounds_toArray, List.set_cons_zero, List.set_cons_succ])
    | ((with_reducible apply L_run); rfl; exact run_nonnil rfl rfl Salg.underlying108 guard108; (try simp only [Option.isNone_none, Option.isNone_some, Bool.not_true, Bool.not_false]); simp only [Act.put, List.setIfInBounds_toArray, List.set_cons_zero, List.set_cons_succ])
    | ((with_reducible apply W_makeV (n := 3) (s := 24) (z := .agg zac.toArray) (cs := (zac ++ zac ++ zac).toArray) M); rfl; rfl; rfl; rfl; decide; exact Salg.underlying108; exact info128; rfl; decide; decide; decide; kernel_rfl; clear M; intro ab w7 hab hab2 KB M; replace HR3 := hid (HR3.out.kept KB); clear KB hab2; simp only [Act.put, List.setIfInBounds_toArray, List.set_cons_zero, List.set_cons_succ])
    | ((with_reducible apply W_stV (b := t3) (o := 0) (v := (.slice (some ⟨ab, 0, none⟩) 3 3))); rfl; rfl; rfl; exact M.r1; exact size108; (rw [wrow4_size]; decide); intro w8 K hr3; rw [wrow4_s0] at hr3; replace HR3 := hid (HR3.out.keptC K M.r1 (wrow4_nb _ _ _ _)); replace M := Mem.callPut (L1 := [(ab, _)]) M (Or.inr ht3) K hr3; clear K hr3; simp only [List.cons_append, List.nil_append] at M))
  go_loopw [41] (fun iv wr => (iv = .int .i64 0 ∧ Mem w [] [(ab, .cells (zac ++ zac ++ zac).toArray 128 (0, 0)), (t3, .cells (wrow4 (.slice (some ⟨ab, 0, none⟩) 3 3) nilS nilS r3).toArray 113 (0, 0)), (t2, .cells (wrow4 nilS nilS nilS nilS).toArray 113 (0, 0))] wr ∧ NumV wr r3 R) ∨ (iv = .int .i64 1 ∧ ∃ n0 b0 c0 : Value, Mem w [] [(ab, .cells ((acN 1 n0 b0 c0 nilS).cells ++ zac ++ zac).toArray 128 (0, 0)), (t3, .cells (wrow4 (.slice (some ⟨ab, 0, none⟩) 3 3) nilS nilS r3).toArray 113 (0, 0)), (t2, .cells (wrow4 nilS nilS nilS nilS).toArray 113 (0, 0))] wr ∧ NumV wr r3 R ∧ NumV wr n0 N1 ∧ NumV wr b0 B1 ∧ NatV wr c0 ds1) ∨ (iv = .int .i64 2 ∧ ∃ n0 b0 c0 n1 b1 c1 : Value, Mem w [] [(ab, .cells ((acN 1 n0 b0 c0 nilS).cells ++ (acN 2 n1 b1 c1 nilS).cells ++ zac).toArray 128 (0, 0)), (t3, .cells (wrow4 (.slice (some ⟨ab, 0, none⟩) 3 3) nilS nilS r3).toArray 113 (0, 0)), (t2, .cells (wrow4 nilS nilS nilS nilS).toArray 113 (0, 0))] wr ∧ NumV wr r3 R ∧ NumV wr n0 N1 ∧ NumV wr b0 B1 ∧ NatV wr c0 ds1 ∧ NumV wr n1 N2 ∧ NumV wr b1 B2 ∧ NatV wr c1 ds2) ∨ (iv = .int .i64 3 ∧ ∃ n0 b0 c0 n1 b1 c1 n2 b2 : Value, Mem w [] [(ab, .cells ((acN 1 n0 b0 c0 nilS).cells ++ (acN 2 n1 b1 c1 nilS).cells ++ (acN 240 n2 b2 nilS nilS).cells).toArray 128 (0, 0)), (t3, .cells (wrow4 (.slice (some ⟨ab, 0, none⟩) 3 3) nilS nilS r3).toArray 113 (0, 0)), (t2, .cells (wrow4 nilS nilS nilS nilS).toArray 113 (0, 0))] wr ∧ NumV wr r3 R ∧ NumV wr n0 N1 ∧ NumV wr b0 B1 ∧ NatV wr c0 ds1 ∧ NumV wr n1 N2 ∧ NumV wr b1 B2 ∧ NatV wr c1 ds2 ∧ NumV wr n2 N3 ∧ NumV wr b2 B3)) (fun iv _ => (3 - intOf iv).toNat)
  case atStart => exact .inl ⟨rfl, M, HR3.out⟩
  case round =>
    clear M HR3
    rcases hrel with ⟨rfl, M, xHR3⟩ | ⟨rfl, n0, b0, c0, M, xHR3, xHn0, xHb0, xHc0⟩ | ⟨rfl, n0, b0, c0, n1, b1, c1, M, xHR3, xHn0, xHb0, xHc0, xHn1, xHb1, xHc1⟩ | ⟨rfl, n0, b0, c0, n1, b1, c1, n2, b2, M, xHR3, xHn0, xHb0, xHc0, xHn1, xHb1, xHc1, xHn2, xHb2⟩
    · skip
      have HR3 := hid xHR3
      clear xHR3
      have MW := M
      have HWR := hid M.kept
      have hab3 : ab < wr.heap.size ∧ t3 < wr.heap.size ∧ t2 < wr.heap.size := ⟨lt_of_row M.r0, lt_of_row M.r1, lt_of_row M.r2⟩
      have HT3 := hid M.r1
      replace M := M.here
      go_wp2_with (first
        | ((with_reducible apply W_loadX (b := g) (o := 0) (n := 24) (cs := cur) (vs := (acN 1 nv bv cu nilS).cells.toArray)); rfl; exact (HWR.out.trans M.kept).row hg (by simp); exact Salg.underlying128; rfl; exact size128; omega; exact HEX0.out; simp only [Act.put, List.setIfInBounds_toArray, List.set_cons_zero, List.set_cons_succ])
        | ((with_reducible apply L_allocA (d := 5) M); exact zero128; clear M; intro t5 w1 ht5 M; simp only [Act.put, List.setIfInBounds_toArray, List.set_cons_zero, List.set_cons_succ])
        | ((with_reducible apply W_storeK (b := t5) (vs := (acN 1 nv bv cu nilS).cells.toArray)); rfl; rfl; exact M.r0; exact size128; rfl; exact oneT (acN_one (n := 1) Hnv.out.one Hbv.out.one Hcu.out.one HSL1.out); intro w3 K hr3; replace M := Mem.callPut (L1 := []) M (Or.inr ht5) K hr3; clear K hr3; simp only [List.nil_append] at M))
      refine S_region (by kernel_rfl) ?_
      refine E_float 0 13 [0, 1, 2, 3, 5, 6, 8, 9, 4, 7, 10, 11] 12 6 _ (by kernel_rfl) ⟨⟨_, _, _, _, _, rfl, zero128, rfl⟩⟩ (by simp) M.drew ?_
      clear M
      simp only [List.filterMap_cons, List.filterMap_nil, List.getElem?_cons_zero, List.getElem?_cons_succ]
      ((with_reducible apply E_run); rfl; rfl; (intro w M; go_simp; (try go_ints); (try simp only [↓IntWalk.iteOmega]); (try with_reducible rfl)); simp only [Act.put, List.setIfInBounds_toArray, List.set_cons_zero, List.set_cons_succ])
      ((with_reducible apply E_run (v := .agg ((ad 1).map n8).toArray)); rfl; rfl; (intro w M; exact run_loadX (n := 20) M.r0 rfl Salg.underlying45 rfl size45 (Nat.le_of_ble_eq_true (by kernel_rfl)) (show (acN 1 nv bv cu nilS).cells.toArray.extract 0 (0 + 20) = _ by kernel_rfl)); simp only [Act.put, List.setIfInBounds_toArray, List.set_cons_zero, List.set_cons_succ])
      ((with_reducible apply E_run); rfl; rfl; (intro w M; go_simp; (try go_ints); (try simp only [↓IntWalk.iteOmega]); (try with_reducible rfl)); simp only [Act.put, List.setIfInBounds_toArray, List.set_cons_zero, List.set_cons_succ])
      ((with_reducible apply E_run); rfl; rfl; (intro w M; exact run_loadCell (M.r0) rfl (show (acN 1 nv bv cu nilS).cells.toArray[20]? = some nv by kernel_rfl) Salg.underlying89 rfl); simp only [Act.put, List.setIfInBounds_toArray, List.set_cons_zero, List.set_cons_succ])
      ((with_reducible apply E_run); rfl; rfl; (intro w M; go_simp; (try go_ints); (try simp only [↓IntWalk.iteOmega]); (try with_reducible rfl)); simp only [Act.put, List.setIfInBounds_toArray, List.set_cons_zero, List.set_cons_succ])
      ((with_reducible apply E_run); rfl; rfl; (intro w M; exact run_loadCell (M.r0) rfl (show (acN 1 nv bv cu nilS).cells.toArray[21]? = some bv by kernel_rfl) Salg.underlying89 rfl); simp only [Act.put, List.setIfInBounds_toArray, List.set_cons_zero, List.set_cons_succ])
      ((with_reducible apply E_run); rfl; rfl; (intro w M; go_simp; (try go_ints); (try simp only [↓IntWalk.iteOmega]); (try with_reducible rfl)); simp only [Act.put, List.setIfInBounds_toArray, List.set_cons_zero, List.set_cons_succ])
      ((with_reducible apply E_run); rfl; rfl; (intro w M; exact run_loadCell (M.r0) rfl (show (acN 1 nv bv cu nilS).cells.toArray[22]? = some cu by kernel_rfl) Salg.underlying40 rfl); simp only [Act.put, List.setIfInBounds_toArray, List.set_cons_zero, List.set_cons_succ])
      refine E_call rfl Salg.func210 (by kernel_rfl) (by kernel_rfl) (args := [nv]) rfl ?_
      intro w1 K M
      clear K
      refine (natOf_all nv N1 _ (Hnv.out.kept (HWR.out.trans M.kept))).mono ?_
      rintro e w4 ⟨n0, rfl, xHn0, K⟩
      have Hn0 := hid xHn0
      clear xHn0
      replace M := M.call K
      refine ⟨_, rfl, K.mono (by simp), M, ?_⟩
      clear K
      simp only [Act.put, List.setIfInBounds_toArray, List.set_cons_zero, List.set_cons_succ]
      refine E_call rfl Salg.func210 (by kernel_rfl) (by kernel_rfl) (args := [bv]) rfl ?_
      intro w1 K M
      replace Hn0 := hid (Hn0.out.kept K)
      clear K
      refine (natOf_all bv B1 _ (Hbv.out.kept (HWR.out.trans M.kept))).mono ?_
      rintro e w5 ⟨b0, rfl, xHb0, K⟩
      have Hb0 := hid xHb0
      clear xHb0
      replace Hn0 := hid (Hn0.out.kept K)
      replace M := M.call K
      refine ⟨_, rfl, K.mono (by simp), M, ?_⟩
      clear K
      simp only [Act.put, List.setIfInBounds_toArray, List.set_cons_zero, List.set_cons_succ]
      refine E_call rfl Salg.func96 (by kernel_rfl) (by kernel_rfl) (args := [cu]) rfl ?_
      intro w1 K M
      replace Hn0 := hid (Hn0.out.kept K)
      replace Hb0 := hid (Hb0.out.kept K)
      clear K
      refine (bytesOf_all cu ds1 _ (Hcu.out.kept (HWR.out.trans M.kept))).mono ?_
      rintro e w6 ⟨c0, rfl, xHc0, K⟩
      have Hc0 := hid xHc0
      clear xHc0
      replace Hn0 := hid (Hn0.out.kept K)
      replace Hb0 := hid (Hb0.out.kept K)
      replace M := M.call K
      refine ⟨_, rfl, K.mono (by simp), M, ?_⟩
      clear K
      simp only [Act.put, List.setIfInBounds_toArray, List.set_cons_zero, List.set_cons_succ]
      ((with_reducible apply E_run (v := .agg (acN 1 n0 b0 c0 nilS).cells.toArray)); rfl; rfl; (intro w M; obtain ⟨p0, q0, s0, e0⟩ := Hn0.out.slice; subst e0; obtain ⟨p1, q1, s1, e1⟩ := Hb0.out.slice; subst e1; obtain ⟨p2, q2, s2, e2⟩ := Hc0.out.slice; subst e2; kernel_rfl); simp only [Act.put, List.setIfInBounds_toArray, List.set_cons_zero, List.set_cons_succ])
      refine E_nil ?_
      intro w7 K M
      replace Hn0 := hid (Hn0.out.kept K)
      replace Hb0 := hid (Hb0.out.kept K)
      replace Hc0 := hid (Hc0.out.kept K)
      clear K
      intro t6 w8 K ht6 M
      replace Hn0 := hid (Hn0.out.kept K)
      replace Hb0 := hid (Hb0.out.kept K)
      replace Hc0 := hid (Hc0.out.kept K)
      clear K
      simp only [Act.put, List.setIfInBounds_toArray, List.set_cons_zero, List.set_cons_succ]
      refine S_seg 13 14 (by kernel_rfl) (by decide) ?_
      simp only [List.take_succ_cons, List.take_zero, List.drop_zero, List.drop_succ_cons, Nat.sub_zero, Nat.reduceSub]
      have HNB9 := hid (not_bytes_at (cs := (z8 20 ++ [nilS, nilS, nilS, nilS]).toArray) (tc := 128) (i := 20) (p := none) (n := 0) (m := 0) (by kernel_rfl))
      have HNB8 := hid (not_bytes_at (cs := (acN 1 n0 b0 c0 nilS).cells.toArray) (tc := 128) (i := 23) (p := none) (n := 0) (m := 0) (by kernel_rfl))
      go_wp2_with ((with_reducible apply W_storeK (b := t6) (vs := (acN 1 n0 b0 c0 nilS).cells.toArray)); rfl; rfl; exact M.r0; exact size128; rfl; exact oneT (acN_one (n := 1) Hn0.out.one Hb0.out.one Hc0.out.one (sl := nilS) rfl); intro w3 K hr3; replace Hn0 := hid (Hn0.out.keptC K M.r0 HNB9.out); replace Hb0 := hid (Hb0.out.keptC K M.r0 HNB9.out); replace Hc0 := hid (Hc0.out.keptC K M.r0 HNB9.out); replace M := Mem.callPut (L1 := []) M (Or.inr ht6) K hr3; clear K hr3; simp only [List.nil_append] at M)
      refine S_done ?_
      go_wp2_with (first
        | ((with_reducible apply W_loadCell); rfl; exact M.r1; exact (show (acN 1 nv bv cu nilS).cells.toArray[23]? = some nilS by kernel_rfl); exact Salg.underlying126; rfl; simp only [Act.put, List.setIfInBounds_toArray, List.set_cons_zero, List.set_cons_succ])
        | ((with_reducible apply L_run); rfl; exact run_nonnil rfl rfl Salg.underlying126 guard126; (try simp only [Option.isNone_none, Option.isNone_some, Bool.not_true, Bool.not_false]); simp only [Act.put, List.setIfInBounds_toArray, List.set_cons_zero, List.set_cons_succ]))
      go_loopw [69] (fun iv wx => iv = .int .i64 0 ∧ Mem wr [] [(t6, .cells (acN 1 n0 b0 c0 nilS).cells.toArray 128 (0, 0)), (t5, .cells (acN 1 nv bv cu nilS).cells.toArray 128 (0, 0))] wx ∧ NumV wx n0 N1 ∧ NumV wx b0 B1 ∧ NatV wx c0 ds1) (fun _ _ => 0)
      case atStart => exact ⟨rfl, M, Hn0.out, Hb0.out, Hc0.out⟩
      case round =>
        clear M Hn0 Hb0 Hc0
        obtain ⟨rfl, M, xHn0, xHb0, xHc0⟩ := hrel
        have Hn0 := hid xHn0
        have Hb0 := hid xHb0
        have Hc0 := hid xHc0
        clear xHn0 xHb0 xHc0
        replace HR3 := hid (HR3.out.kept M.kept)
        have h6n : t6 ≠ ab ∧ t6 ≠ t3 ∧ t6 ≠ t2 := by omega
        replace M := (MW.call M.kept).add M.r0 (ne3 h6n.1 h6n.2.1 h6n.2.2)
        have HNBA := hid (not_bytes_at (cs := (zac ++ zac ++ zac).toArray) (tc := 128) (i := 68) (p := none) (n := 0) (m := 0) (by kernel_rfl))
        have HONA := hid (oneT (acN_one (n := 1) Hn0.out.one Hb0.out.one Hc0.out.one (sl := nilS) rfl))
        go_wp2_with (first
          | ((with_reducible apply W_loadCell); rfl; exact M.r2; exact (wrow4_0 _ _ _ _); exact Salg.underlying108; rfl; simp only [Act.put, List.setIfInBounds_toArray, List.set_cons_zero, List.set_cons_succ])
          | ((with_reducible apply W_loadAll); rfl; exact M.r0; exact Salg.underlying128; rfl; kernel_rfl; simp only [Act.put, List.setIfInBounds_toArray, List.set_cons_zero, List.set_cons_succ])
          | ((with_reducible apply W_stP (b := ab) (o := 0) (n := 24) (v := .agg (acN 1 n0 b0 c0 nilS).cells.toArray) (rs := ((acN 1 n0 b0 c0 nilS).cells ++ zac ++ zac).toArray)); rfl; rfl; exact M.r1; exact size128; kernel_rfl; exact HONA.out; exact Nat.le_of_ble_eq_true (by kernel_rfl); kernel_rfl; intro w9 K hr3; replace HR3 := hid (HR3.out.keptC K M.r1 HNBA.out); replace Hn0 := hid (Hn0.out.keptC K M.r1 HNBA.out); replace Hb0 := hid (Hb0.out.keptC K M.r1 HNBA.out); replace Hc0 := hid (Hc0.out.keptC K M.r1 HNBA.out); replace M := Mem.callPut (L1 := [(t6, _)]) M (Or.inr hab) K hr3; clear K hr3; simp only [List.cons_append, List.nil_append] at M))
        go_roundw
        case rel => exact .inr (.inl ⟨by go_num, n0, b0, c0, M.tail, HR3.out, Hn0.out, Hb0.out, Hc0.out⟩)
        case measure => decide
    · skip
      have HR3 := hid xHR3
      have Hn0 := hid xHn0
      have Hb0 := hid xHb0
      have Hc0 := hid xHc0
      clear xHR3 xHn0 xHb0 xHc0
      have MW := M
      have HWR := hid M.kept
      have hab3 : ab < wr.heap.size ∧ t3 < wr.heap.size ∧ t2 < wr.heap.size := ⟨lt_of_row M.r0, lt_of_row M.r1, lt_of_row M.r2⟩
      have HT3 := hid M.r1
      replace M := M.here
      go_wp2_with (first
        | ((with_reducible apply W_loadX (b := g) (o := 24) (n := 24) (cs := cur) (vs := (acN 2 nv2 bv2 cu2 nilS).cells.toArray)); rfl; exact (HWR.out.trans M.kept).row hg (by simp); exact Salg.underlying128; rfl; exact size128; omega; exact HEX1.out; simp only [Act.put, List.setIfInBounds_toArray, List.set_cons_zero, List.set_cons_succ])
        | ((with_reducible apply L_allocA (d := 5) M); exact zero128; clear M; intro t5 w1 ht5 M; simp only [Act.put, List.setIfInBounds_toArray, List.set_cons_zero, List.set_cons_succ])
        | ((with_reducible apply W_storeK (b := t5) (vs := (acN 2 nv2 bv2 cu2 nilS).cells.toArray)); rfl; rfl; exact M.r0; exact size128; rfl; exact oneT (acN_one (n := 2) Hnv2.out.one Hbv2.out.one Hcu2.out.one (sl := nilS) rfl); intro w3 K hr3; replace M := Mem.callPut (L1 := []) M (Or.inr ht5) K hr3; clear K hr3; simp only [List.nil_append] at M))
      refine S_region (by kernel_rfl) ?_
      refine E_float 0 13 [0, 1, 2, 3, 5, 6, 8, 9, 4, 7, 10, 11] 12 6 _ (by kernel_rfl) ⟨⟨_, _, _, _, _, rfl, zero128, rfl⟩⟩ (by simp) M.drew ?_
      clear M
      simp only [List.filterMap_cons, List.filterMap_nil, List.getElem?_cons_zero, List.getElem?_cons_succ]
      ((with_reducible apply E_run); rfl; rfl; (intro w M; go_simp; (try go_ints); (try simp only [↓IntWalk.iteOmega]); (try with_reducible rfl)); simp only [Act.put, List.setIfInBounds_toArray, List.set_cons_zero, List.set_cons_succ])
      ((with_reducible apply E_run (v := .agg ((ad 2).map n8).toArray)); rfl; rfl; (intro w M; exact run_loadX (n := 20) M.r0 rfl Salg.underlying45 rfl size45 (Nat.le_of_ble_eq_true (by kernel_rfl)) (show (acN 2 nv2 bv2 cu2 nilS).cells.toArray.extract 0 (0 + 20) = _ by kernel_rfl)); simp only [Act.put, List.setIfInBounds_toArray, List.set_cons_zero, List.set_cons_succ])
      ((with_reducible apply E_run); rfl; rfl; (intro w M; go_simp; (try go_ints); (try simp only [↓IntWalk.iteOmega]); (try with_reducible rfl)); simp only [Act.put, List.setIfInBounds_toArray, List.set_cons_zero, List.set_cons_succ])
      ((with_reducible apply E_run); rfl; rfl; (intro w M; exact run_loadCell (M.r0) rfl (show (acN 2 nv2 bv2 cu2 nilS).cells.toArray[20]? = some nv2 by kernel_rfl) Salg.underlying89 rfl); simp only [Act.put, List.setIfInBounds_toArray, List.set_cons_zero, List.set_cons_succ])
      ((with_reducible apply E_run); rfl; rfl; (intro w M; go_simp; (try go_ints); (try simp only [↓IntWalk.iteOmega]); (try with_reducible rfl)); simp only [Act.put, List.setIfInBounds_toArray, List.set_cons_zero, List.set_cons_succ])
      ((with_reducible apply E_run); rfl; rfl; (intro w M; exact run_loadCell (M.r0) rfl (show (acN 2 nv2 bv2 cu2 nilS).cells.toArray[21]? = some bv2 by kernel_rfl) Salg.underlying89 rfl); simp only [Act.put, List.setIfInBounds_toArray, List.set_cons_zero, List.set_cons_succ])
      ((with_reducible apply E_run); rfl; rfl; (intro w M; go_simp; (try go_ints); (try simp only [↓IntWalk.iteOmega]); (try with_reducible rfl)); simp only [Act.put, List.setIfInBounds_toArray, List.set_cons_zero, List.set_cons_succ])
      ((with_reducible apply E_run); rfl; rfl; (intro w M; exact run_loadCell (M.r0) rfl (show (acN 2 nv2 bv2 cu2 nilS).cells.toArray[22]? = some cu2 by kernel_rfl) Salg.underlying40 rfl); simp only [Act.put, List.setIfInBounds_toArray, List.set_cons_zero, List.set_cons_succ])
      refine E_call rfl Salg.func210 (by kernel_rfl) (by kernel_rfl) (args := [nv2]) rfl ?_
      intro w1 K M
      clear K
      refine (natOf_all nv2 N2 _ (Hnv2.out.kept (HWR.out.trans M.kept))).mono ?_
      rintro e w4 ⟨n1, rfl, xHn1, K⟩
      have Hn1 := hid xHn1
      clear xHn1
      replace M := M.call K
      refine ⟨_, rfl, K.mono (by simp), M, ?_⟩
      clear K
      simp only [Act.put, List.setIfInBounds_toArray, List.set_cons_zero, List.set_cons_succ]
      refine E_call rfl Salg.func210 (by kernel_rfl) (by kernel_rfl) (args := [bv2]) rfl ?_
      intro w1 K M
      replace Hn1 := hid (Hn1.out.kept K)
      clear K
      refine (natOf_all bv2 B2 _ (Hbv2.out.kept (HWR.out.trans M.kept))).mono ?_
      rintro e w5 ⟨b1, rfl, xHb1, K⟩
      have Hb1 := hid xHb1
      clear xHb1
      replace Hn1 := hid (Hn1.out.kept K)
      replace M := M.call K
      refine ⟨_, rfl, K.mono (by simp), M, ?_⟩
      clear K
      simp only [Act.put, List.setIfInBounds_toArray, List.set_cons_zero, List.set_cons_succ]
      refine E_call rfl Salg.func96 (by kernel_rfl) (by kernel_rfl) (args := [cu2]) rfl ?_
      intro w1 K M
      replace Hn1 := hid (Hn1.out.kept K)
      replace Hb1 := hid (Hb1.out.kept K)
      clear K
      refine (bytesOf_all cu2 ds2 _ (Hcu2.out.kept (HWR.out.trans M.kept))).mono ?_
      rintro e w6 ⟨c1, rfl, xHc1, K⟩
      have Hc1 := hid xHc1
      clear xHc1
      replace Hn1 := hid (Hn1.out.kept K)
      replace Hb1 := hid (Hb1.out.kept K)
      replace M := M.call K
      refine ⟨_, rfl, K.mono (by simp), M, ?_⟩
      clear K
      simp only [Act.put, List.setIfInBounds_toArray, List.set_cons_zero, List.set_cons_succ]
      ((with_reducible apply E_run (v := .agg (acN 2 n1 b1 c1 nilS).cells.toArray)); rfl; rfl; (intro w M; obtain ⟨p0, q0, s0, e0⟩ := Hn1.out.slice; subst e0; obtain ⟨p1, q1, s1, e1⟩ := Hb1.out.slice; subst e1; obtain ⟨p2, q2, s2, e2⟩ := Hc1.out.slice; subst e2; kernel_rfl); simp only [Act.put, List.setIfInBounds_toArray, List.set_cons_zero, List.set_cons_succ])
      refine E_nil ?_
      intro w7 K M
      replace Hn1 := hid (Hn1.out.kept K)
      replace Hb1 := hid (Hb1.out.kept K)
      replace Hc1 := hid (Hc1.out.kept K)
      clear K
      intro t6 w8 K ht6 M
      replace Hn1 := hid (Hn1.out.kept K)
      replace Hb1 := hid (Hb1.out.kept K)
      replace Hc1 := hid (Hc1.out.kept K)
      clear K
      simp only [Act.put, List.setIfInBounds_toArray, List.set_cons_zero, List.set_cons_succ]
      refine S_seg 13 14 (by kernel_rfl) (by decide) ?_
      simp only [List.take_succ_cons, List.take_zero, List.drop_zero, List.drop_succ_cons, Nat.sub_zero, Nat.reduceSub]
      have HNB9 := hid (not_bytes_at (cs := (z8 20 ++ [nilS, nilS, nilS, nilS]).toArray) (tc := 128) (i := 20) (p := none) (n := 0) (m := 0) (by kernel_rfl))
      have HNB8 := hid (not_bytes_at (cs := (acN 2 n1 b1 c1 nilS).cells.toArray) (tc := 128) (i := 23) (p := none) (n := 0) (m := 0) (by kernel_rfl))
      go_wp2_with ((with_reducible apply W_storeK (b := t6) (vs := (acN 2 n1 b1 c1 nilS).cells.toArray)); rfl; rfl; exact M.r0; exact size128; rfl; exact oneT (acN_one (n := 2) Hn1.out.one Hb1.out.one Hc1.out.one (sl := nilS) rfl); intro w3 K hr3; replace Hn1 := hid (Hn1.out.keptC K M.r0 HNB9.out); replace Hb1 := hid (Hb1.out.keptC K M.r0 HNB9.out); replace Hc1 := hid (Hc1.out.keptC K M.r0 HNB9.out); replace M := Mem.callPut (L1 := []) M (Or.inr ht6) K hr3; clear K hr3; simp only [List.nil_append] at M)
      refine S_done ?_
      go_wp2_with (first
        | ((with_reducible apply W_loadCell); rfl; exact M.r1; exact (show (acN 2 nv2 bv2 cu2 nilS).cells.toArray[23]? = some nilS by kernel_rfl); exact Salg.underlying126; rfl; simp only [Act.put, List.setIfInBounds_toArray, List.set_cons_zero, List.set_cons_succ])
        | ((with_reducible apply L_run); rfl; exact run_nonnil rfl rfl Salg.underlying126 guard126; (try simp only [Option.isNone_none, Option.isNone_some, Bool.not_true, Bool.not_false]); simp only [Act.put, List.setIfInBounds_toArray, List.set_cons_zero, List.set_cons_succ]))
      go_loopw [69] (fun iv wx => iv = .int .i64 0 ∧ Mem wr [] [(t6, .cells (acN 2 n1 b1 c1 nilS).cells.toArray 128 (0, 0)), (t5, .cells (acN 2 nv2 bv2 cu2 nilS).cells.toArray 128 (0, 0))] wx ∧ NumV wx n1 N2 ∧ NumV wx b1 B2 ∧ NatV wx c1 ds2) (fun _ _ => 0)
      case atStart => exact ⟨rfl, M, Hn1.out, Hb1.out, Hc1.out⟩
      case round =>
        clear M Hn1 Hb1 Hc1
        obtain ⟨rfl, M, xHn1, xHb1, xHc1⟩ := hrel
        have Hn1 := hid xHn1
        have Hb1 := hid xHb1
        have Hc1 := hid xHc1
        clear xHn1 xHb1 xHc1
        replace HR3 := hid (HR3.out.kept M.kept)
        replace Hn0 := hid (Hn0.out.kept M.kept)
        replace Hb0 := hid (Hb0.out.kept M.kept)
        replace Hc0 := hid (Hc0.out.kept M.kept)
        have h6n : t6 ≠ ab ∧ t6 ≠ t3 ∧ t6 ≠ t2 := by omega
        replace M := (MW.call M.kept).add M.r0 (ne3 h6n.1 h6n.2.1 h6n.2.2)
        have HNBA := hid (not_bytes_at (cs := ((acN 1 n0 b0 c0 nilS).cells ++ zac ++ zac).toArray) (tc := 128) (i := 68) (p := none) (n := 0) (m := 0) (by kernel_rfl))
        have HONA := hid (oneT (acN_one (n := 2) Hn1.out.one Hb1.out.one Hc1.out.one (sl := nilS) rfl))
        go_wp2_with (first
          | ((with_reducible apply W_loadCell); rfl; exact M.r2; exact (wrow4_0 _ _ _ _); exact Salg.underlying108; rfl; simp only [Act.put, List.setIfInBounds_toArray, List.set_cons_zero, List.set_cons_succ])
          | ((with_reducible apply W_loadAll); rfl; exact M.r0; exact Salg.underlying128; rfl; kernel_rfl; simp only [Act.put, List.setIfInBounds_toArray, List.set_cons_zero, List.set_cons_succ])
          | ((with_reducible apply W_stP (b := ab) (o := 24) (n := 24) (v := .agg (acN 2 n1 b1 c1 nilS).cells.toArray) (rs := ((acN 1 n0 b0 c0 nilS).cells ++ (acN 2 n1 b1 c1 nilS).cells ++ zac).toArray)); rfl; rfl; exact M.r1; exact size128; kernel_rfl; exact HONA.out; exact Nat.le_of_ble_eq_true (by kernel_rfl); kernel_rfl; intro w9 K hr3; replace HR3 := hid (HR3.out.keptC K M.r1 HNBA.out); replace Hn0 := hid (Hn0.out.keptC K M.r1 HNBA.out); replace Hb0 := hid (Hb0.out.keptC K M.r1 HNBA.out); replace Hc0 := hid (Hc0.out.keptC K M.r1 HNBA.out); replace Hn1 := hid (Hn1.out.keptC K M.r1 HNBA.out); replace Hb1 := hid (Hb1.out.keptC K M.r1 HNBA.out); replace Hc1 := hid (Hc1.out.keptC K M.r1 HNBA.out); replace M := Mem.callPut (L1 := [(t6, _)]) M (Or.inr hab) K hr3; clear K hr3; simp only [List.cons_append, List.nil_append] at M))
        go_roundw
        case rel => exact .inr (.inr (.inl ⟨by go_num, n0, b0, c0, n1, b1, c1, M.tail, HR3.out, Hn0.out, Hb0.out, Hc0.out, Hn1.out, Hb1.out, Hc1.out⟩))
        case measure => decide
    · skip
      have HR3 := hid xHR3
      have Hn0 := hid xHn0
      have Hb0 := hid xHb0
      have Hc0 := hid xHc0
      have Hn1 := hid xHn1
      have Hb1 := hid xHb1
      have Hc1 := hid xHc1
      clear xHR3 xHn0 xHb0 xHc0 xHn1 xHb1 xHc1
      have MW := M
      have HWR := hid M.kept
      have hab3 : ab < wr.heap.size ∧ t3 < wr.heap.size ∧ t2 < wr.heap.size := ⟨lt_of_row M.r0, lt_of_row M.r1, lt_of_row M.r2⟩
      have HT3 := hid M.r1
      replace M := M.here
      go_wp2_with (first
        | ((with_reducible apply W_loadX (b := g) (o := 48) (n := 24) (cs := cur) (vs := (acN 240 nv3 bv3 nilS nilS).cells.toArray)); rfl; exact (HWR.out.trans M.kept).row hg (by simp); exact Salg.underlying128; rfl; exact size128; omega; exact HEX2.out; simp only [Act.put, List.setIfInBounds_toArray, List.set_cons_zero, List.set_cons_succ])
        | ((with_reducible apply L_allocA (d := 5) M); exact zero128; clear M; intro t5 w1 ht5 M; simp only [Act.put, List.setIfInBounds_toArray, List.set_cons_zero, List.set_cons_succ])
        | ((with_reducible apply W_storeK (b := t5) (vs := (acN 240 nv3 bv3 nilS nilS).cells.toArray)); rfl; rfl; exact M.r0; exact size128; rfl; exact oneT (acN_one (n := 240) Hnv3.out.one Hbv3.out.one (cu := nilS) rfl (sl := nilS) rfl); intro w3 K hr3; replace M := Mem.callPut (L1 := []) M (Or.inr ht5) K hr3; clear K hr3; simp only [List.nil_append] at M))
      refine S_region (by kernel_rfl) ?_
      refine E_float 0 13 [0, 1, 2, 3, 5, 6, 8, 9, 4, 7, 10, 11] 12 6 _ (by kernel_rfl) ⟨⟨_, _, _, _, _, rfl, zero128, rfl⟩⟩ (by simp) M.drew ?_
      clear M
      simp only [List.filterMap_cons, List.filterMap_nil, List.getElem?_cons_zero, List.getElem?_cons_succ]
      ((with_reducible apply E_run); rfl; rfl; (intro w M; go_simp; (try go_ints); (try simp only [↓IntWalk.iteOmega]); (try with_reducible rfl)); simp only [Act.put, List.setIfInBounds_toArray, List.set_cons_zero, List.set_cons_succ])
      ((with_reducible apply E_run (v := .agg ((ad 240).map n8).toArray)); rfl; rfl; (intro w M; exact run_loadX (n := 20) M.r0 rfl Salg.underlying45 rfl size45 (Nat.le_of_ble_eq_true (by kernel_rfl)) (show (acN 240 nv3 bv3 nilS nilS).cells.toArray.extract 0 (0 + 20) = _ by kernel_rfl)); simp only [Act.put, List.setIfInBounds_toArray, List.set_cons_zero, List.set_cons_succ])
      ((with_reducible apply E_run); rfl; rfl; (intro w M; go_simp; (try go_ints); (try simp only [↓IntWalk.iteOmega]); (try with_reducible rfl)); simp only [Act.put, List.setIfInBounds_toArray, List.set_cons_zero, List.set_cons_succ])
      ((with_reducible apply E_run); rfl; rfl; (intro w M; exact run_loadCell (M.r0) rfl (show (acN 240 nv3 bv3 nilS nilS).cells.toArray[20]? = some nv3 by kernel_rfl) Salg.underlying89 rfl); simp only [Act.put, List.setIfInBounds_toArray, List.set_cons_zero, List.set_cons_succ])
      ((with_reducible apply E_run); rfl; rfl; (intro w M; go_simp; (try go_ints); (try simp only [↓IntWalk.iteOmega]); (try with_reducible rfl)); simp only [Act.put, List.setIfInBounds_toArray, List.set_cons_zero, List.set_cons_succ])
      ((with_reducible apply E_run); rfl; rfl; (intro w M; exact run_loadCell (M.r0) rfl (show (acN 240 nv3 bv3 nilS nilS).cells.toArray[21]? = some bv3 by kernel_rfl) Salg.underlying89 rfl); simp only [Act.put, List.setIfInBounds_toArray, List.set_cons_zero, List.set_cons_succ])
      ((with_reducible apply E_run); rfl; rfl; (intro w M; go_simp; (try go_ints); (try simp only [↓IntWalk.iteOmega]); (try with_reducible rfl)); simp only [Act.put, List.setIfInBounds_toArray, List.set_cons_zero, List.set_cons_succ])
      ((with_reducible apply E_run); rfl; rfl; (intro w M; exact run_loadCell (M.r0) rfl (show (acN 240 nv3 bv3 nilS nilS).cells.toArray[22]? = some nilS by kernel_rfl) Salg.underlying40 rfl); simp only [Act.put, List.setIfInBounds_toArray, List.set_cons_zero, List.set_cons_succ])
      refine E_call rfl Salg.func210 (by kernel_rfl) (by kernel_rfl) (args := [nv3]) rfl ?_
      intro w1 K M
      clear K
      refine (natOf_all nv3 N3 _ (Hnv3.out.kept (HWR.out.trans M.kept))).mono ?_
      rintro e w4 ⟨n2, rfl, xHn2, K⟩
      have Hn2 := hid xHn2
      clear xHn2
      replace M := M.call K
      refine ⟨_, rfl, K.mono (by simp), M, ?_⟩
      clear K
      simp only [Act.put, List.setIfInBounds_toArray, List.set_cons_zero, List.set_cons_succ]
      refine E_call rfl Salg.func210 (by kernel_rfl) (by kernel_rfl) (args := [bv3]) rfl ?_
      intro w1 K M
      replace Hn2 := hid (Hn2.out.kept K)
      clear K
      refine (natOf_all bv3 B3 _ (Hbv3.out.kept (HWR.out.trans M.kept))).mono ?_
      rintro e w5 ⟨b2, rfl, xHb2, K⟩
      have Hb2 := hid xHb2
      clear xHb2
      replace Hn2 := hid (Hn2.out.kept K)
      replace M := M.call K
      refine ⟨_, rfl, K.mono (by simp), M, ?_⟩
      clear K
      simp only [Act.put, List.setIfInBounds_toArray, List.set_cons_zero, List.set_cons_succ]
      refine E_call rfl Salg.func96 (by kernel_rfl) (by kernel_rfl) (args := [nilS]) rfl ?_
      intro w1 K M
      replace Hn2 := hid (Hn2.out.kept K)
      replace Hb2 := hid (Hb2.out.kept K)
      clear K
      refine (bytesOf_nil _).mono ?_
      rintro e w6 ⟨rfl, hw⟩
      replace hw := hw.symm
      subst hw
      refine ⟨_, rfl, Kept.refl _ _, M, ?_⟩
      simp only [Act.put, List.setIfInBounds_toArray, List.set_cons_zero, List.set_cons_succ]
      ((with_reducible apply E_run (v := .agg (acN 240 n2 b2 nilS nilS).cells.toArray)); rfl; rfl; (intro w M; obtain ⟨p0, q0, s0, e0⟩ := Hn2.out.slice; subst e0; obtain ⟨p1, q1, s1, e1⟩ := Hb2.out.slice; subst e1; kernel_rfl); simp only [Act.put, List.setIfInBounds_toArray, List.set_cons_zero, List.set_cons_succ])
      refine E_nil ?_
      intro w7 K M
      replace Hn2 := hid (Hn2.out.kept K)
      replace Hb2 := hid (Hb2.out.kept K)
      clear K
      intro t6 w8 K ht6 M
      replace Hn2 := hid (Hn2.out.kept K)
      replace Hb2 := hid (Hb2.out.kept K)
      clear K
      simp only [Act.put, List.setIfInBounds_toArray, List.set_cons_zero, List.set_cons_succ]
      refine S_seg 13 14 (by kernel_rfl) (by decide) ?_
      simp only [List.take_succ_cons, List.take_zero, List.drop_zero, List.drop_succ_cons, Nat.sub_zero, Nat.reduceSub]
      have HNB9 := hid (not_bytes_at (cs := (z8 20 ++ [nilS, nilS, nilS, nilS]).toArray) (tc := 128) (i := 20) (p := none) (n := 0) (m := 0) (by kernel_rfl))
      have HNB8 := hid (not_bytes_at (cs := (acN 240 n2 b2 nilS nilS).cells.toArray) (tc := 128) (i := 23) (p := none) (n := 0) (m := 0) (by kernel_rfl))
      go_wp2_with ((with_reducible apply W_storeK (b := t6) (vs := (acN 240 n2 b2 nilS nilS).cells.toArray)); rfl; rfl; exact M.r0; exact size128; rfl; exact oneT (acN_one (n := 240) Hn2.out.one Hb2.out.one (cu := nilS) rfl (sl := nilS) rfl); intro w3 K hr3; replace Hn2 := hid (Hn2.out.keptC K M.r0 HNB9.out); replace Hb2 := hid (Hb2.out.keptC K M.r0 HNB9.out); replace M := Mem.callPut (L1 := []) M (Or.inr ht6) K hr3; clear K hr3; simp only [List.nil_append] at M)
      refine S_done ?_
      go_wp2_with (first
        | ((with_reducible apply W_loadCell); rfl; exact M.r1; exact (show (acN 240 nv3 bv3 nilS nilS).cells.toArray[23]? = some nilS by kernel_rfl); exact Salg.underlying126; rfl; simp only [Act.put, List.setIfInBounds_toArray, List.set_cons_zero, List.set_cons_succ])
        | ((with_reducible apply L_run); rfl; exact run_nonnil rfl rfl Salg.underlying126 guard126; (try simp only [Option.isNone_none, Option.isNone_some, Bool.not_true, Bool.not_false]); simp only [Act.put, List.setIfInBounds_toArray, List.set_cons_zero, List.set_cons_succ]))
      go_loopw [69] (fun iv wx => iv = .int .i64 0 ∧ Mem wr [] [(t6, .cells (acN 240 n2 b2 nilS nilS).cells.toArray 128 (0, 0)), (t5, .cells (acN 240 nv3 bv3 nilS nilS).cells.toArray 128 (0, 0))] wx ∧ NumV wx n2 N3 ∧ NumV wx b2 B3) (fun _ _ => 0)
      case atStart => exact ⟨rfl, M, Hn2.out, Hb2.out⟩
      case round =>
        clear M Hn2 Hb2
        obtain ⟨rfl, M, xHn2, xHb2⟩ := hrel
        have Hn2 := hid xHn2
        have Hb2 := hid xHb2
        clear xHn2 xHb2
        replace HR3 := hid (HR3.out.kept M.kept)
        replace Hn0 := hid (Hn0.out.kept M.kept)
        replace Hb0 := hid (Hb0.out.kept M.kept)
        replace Hc0 := hid (Hc0.out.kept M.kept)
        replace Hn1 := hid (Hn1.out.kept M.kept)
        replace Hb1 := hid (Hb1.out.kept M.kept)
        replace Hc1 := hid (Hc1.out.kept M.kept)
        have h6n : t6 ≠ ab ∧ t6 ≠ t3 ∧ t6 ≠ t2 := by omega
        replace M := (MW.call M.kept).add M.r0 (ne3 h6n.1 h6n.2.1 h6n.2.2)
        have HNBA := hid (not_bytes_at (cs := ((acN 1 n0 b0 c0 nilS).cells ++ (acN 2 n1 b1 c1 nilS).cells ++ zac).toArray) (tc := 128) (i := 68) (p := none) (n := 0) (m := 0) (by kernel_rfl))
        have HONA := hid (oneT (acN_one (n := 240) Hn2.out.one Hb2.out.one (cu := nilS) rfl (sl := nilS) rfl))
        go_wp2_with (first
          | ((with_reducible apply W_loadCell); rfl; exact M.r2; exact (wrow4_0 _ _ _ _); exact Salg.underlying108; rfl; simp only [Act.put, List.setIfInBounds_toArray, List.set_cons_zero, List.set_cons_succ])
          | ((with_reducible apply W_loadAll); rfl; exact M.r0; exact Salg.underlying128; rfl; kernel_rfl; simp only [Act.put, List.setIfInBounds_toArray, List.set_cons_zero, List.set_cons_succ])
          | ((with_reducible apply W_stP (b := ab) (o := 48) (n := 24) (v := .agg (acN 240 n2 b2 nilS nilS).cells.toArray) (rs := ((acN 1 n0 b0 c0 nilS).cells ++ (acN 2 n1 b1 c1 nilS).cells ++ (acN 240 n2 b2 nilS nilS).cells).toArray)); rfl; rfl; exact M.r1; exact size128; kernel_rfl; exact HONA.out; exact Nat.le_of_ble_eq_true (by kernel_rfl); kernel_rfl; intro w9 K hr3; replace HR3 := hid (HR3.out.keptC K M.r1 HNBA.out); replace Hn0 := hid (Hn0.out.keptC K M.r1 HNBA.out); replace Hb0 := hid (Hb0.out.keptC K M.r1 HNBA.out); replace Hc0 := hid (Hc0.out.keptC K M.r1 HNBA.out); replace Hn1 := hid (Hn1.out.keptC K M.r1 HNBA.out); replace Hb1 := hid (Hb1.out.keptC K M.r1 HNBA.out); replace Hc1 := hid (Hc1.out.keptC K M.r1 HNBA.out); replace Hn2 := hid (Hn2.out.keptC K M.r1 HNBA.out); replace Hb2 := hid (Hb2.out.keptC K M.r1 HNBA.out); replace M := Mem.callPut (L1 := [(t6, _)]) M (Or.inr hab) K hr3; clear K hr3; simp only [List.cons_append, List.nil_append] at M))
        go_roundw
        case rel => exact .inr (.inr (.inr ⟨by go_num, n0, b0, c0, n1, b1, c1, n2, b2, M.tail, HR3.out, Hn0.out, Hb0.out, Hc0.out, Hn1.out, Hb1.out, Hc1.out, Hn2.out, Hb2.out⟩))
        case measure => decide
    · skip
      have HR3 := hid xHR3
      have Hn0 := hid xHn0
      have Hb0 := hid xHb0
      have Hc0 := hid xHc0
      have Hn1 := hid xHn1
      have Hb1 := hid xHb1
      have Hc1 := hid xHc1
      have Hn2 := hid xHn2
      have Hb2 := hid xHb2
      clear xHR3 xHn0 xHb0 xHc0 xHn1 xHb1 xHc1 xHn2 xHb2
      go_wp2_with ((with_reducible apply W_loadCell); rfl; exact M.kept.row hc (by simp); exact k1; exact Salg.underlying109; rfl; simp only [Act.put, List.setIfInBounds_toArray, List.set_cons_zero, List.set_cons_succ])
      refine (HADO.out _ M.kept).mono ?_
      rintro e w10 ⟨a1, rfl, xHAD, K⟩
      have HAD := hid xHAD
      replace HR3 := hid (HR3.out.kept K)
      replace Hn0 := hid (Hn0.out.kept K)
      replace Hb0 := hid (Hb0.out.kept K)
      replace Hc0 := hid (Hc0.out.kept K)
      replace Hn1 := hid (Hn1.out.kept K)
      replace Hb1 := hid (Hb1.out.kept K)
      replace Hc1 := hid (Hc1.out.kept K)
      replace Hn2 := hid (Hn2.out.kept K)
      replace Hb2 := hid (Hb2.out.kept K)
      replace M := M.call K
      clear K xHAD
      have HAD1 := hid (own_one HAD.out.own)
      go_wp2_with (first
        | ((with_reducible apply W_stV (b := t3) (o := 1) (v := a1)); rfl; rfl; exact HAD1.out; exact M.r1; exact size109; (rw [wrow4_size]; decide); intro w13 K hr3; rw [wrow4_s1] at hr3; replace HR3 := hid (HR3.out.keptC K M.r1 (wrow4_nb _ _ _ _)); replace Hn0 := hid (Hn0.out.keptC K M.r1 (wrow4_nb _ _ _ _)); replace Hb0 := hid (Hb0.out.keptC K M.r1 (wrow4_nb _ _ _ _)); replace Hc0 := hid (Hc0.out.keptC K M.r1 (wrow4_nb _ _ _ _)); replace Hn1 := hid (Hn1.out.keptC K M.r1 (wrow4_nb _ _ _ _)); replace Hb1 := hid (Hb1.out.keptC K M.r1 (wrow4_nb _ _ _ _)); replace Hc1 := hid (Hc1.out.keptC K M.r1 (wrow4_nb _ _ _ _)); replace Hn2 := hid (Hn2.out.keptC K M.r1 (wrow4_nb _ _ _ _)); replace Hb2 := hid (Hb2.out.keptC K M.r1 (wrow4_nb _ _ _ _)); replace HAD := hid (HAD.out.keptC K M.r1 (by decide)); replace M := Mem.callPut (L1 := [(ab, _)]) M (Or.inr ht3) K hr3; clear K hr3; simp only [List.cons_append, List.nil_append] at M)
        | ((with_reducible apply W_loadCell); rfl; exact M.kept.row hc (by simp); exact k6; exact Salg.underlying109; rfl; simp only [Act.put, List.setIfInBounds_toArray, List.set_cons_zero, List.set_cons_succ]))
      refine (addrsOf_nil _).mono ?_
      rintro e w11 ⟨rfl, hw⟩
      replace hw := hw.symm
      subst hw
      go_wp2_with (first
        | ((with_reducible apply W_stV (b := t3) (o := 6) (v := nilS)); rfl; rfl; exact rfl; exact M.r1; exact size109; (rw [wrow4_size]; decide); intro w13 K hr3; rw [wrow4_s6] at hr3; replace HR3 := hid (HR3.out.keptC K M.r1 (wrow4_nb _ _ _ _)); replace Hn0 := hid (Hn0.out.keptC K M.r1 (wrow4_nb _ _ _ _)); replace Hb0 := hid (Hb0.out.keptC K M.r1 (wrow4_nb _ _ _ _)); replace Hc0 := hid (Hc0.out.keptC K M.r1 (wrow4_nb _ _ _ _)); replace Hn1 := hid (Hn1.out.keptC K M.r1 (wrow4_nb _ _ _ _)); replace Hb1 := hid (Hb1.out.keptC K M.r1 (wrow4_nb _ _ _ _)); replace Hc1 := hid (Hc1.out.keptC K M.r1 (wrow4_nb _ _ _ _)); replace Hn2 := hid (Hn2.out.keptC K M.r1 (wrow4_nb _ _ _ _)); replace Hb2 := hid (Hb2.out.keptC K M.r1 (wrow4_nb _ _ _ _)); replace HAD := hid (HAD.out.keptC K M.r1 (by decide)); replace M := Mem.callPut (L1 := [(ab, _)]) M (Or.inr ht3) K hr3; clear K hr3; simp only [List.cons_append, List.nil_append] at M)
        | ((with_reducible apply W_loadCell); rfl; exact M.kept.row hc (by simp); exact k7; exact Salg.underlying109; rfl; simp only [Act.put, List.setIfInBounds_toArray, List.set_cons_zero, List.set_cons_succ]))
      refine (addrsOf_nil _).mono ?_
      rintro e w12 ⟨rfl, hw⟩
      replace hw := hw.symm
      subst hw
      go_wp2_with (first
        | ((with_reducible apply W_stV (b := t3) (o := 7) (v := nilS)); rfl; rfl; exact rfl; exact M.r1; exact size109; (rw [wrow4_size]; decide); intro w13 K hr3; rw [wrow4_s7] at hr3; replace HR3 := hid (HR3.out.keptC K M.r1 (wrow4_nb _ _ _ _)); replace Hn0 := hid (Hn0.out.keptC K M.r1 (wrow4_nb _ _ _ _)); replace Hb0 := hid (Hb0.out.keptC K M.r1 (wrow4_nb _ _ _ _)); replace Hc0 := hid (Hc0.out.keptC K M.r1 (wrow4_nb _ _ _ _)); replace Hn1 := hid (Hn1.out.keptC K M.r1 (wrow4_nb _ _ _ _)); replace Hb1 := hid (Hb1.out.keptC K M.r1 (wrow4_nb _ _ _ _)); replace Hc1 := hid (Hc1.out.keptC K M.r1 (wrow4_nb _ _ _ _)); replace Hn2 := hid (Hn2.out.keptC K M.r1 (wrow4_nb _ _ _ _)); replace Hb2 := hid (Hb2.out.keptC K M.r1 (wrow4_nb _ _ _ _)); replace HAD := hid (HAD.out.keptC K M.r1 (by decide)); replace M := Mem.callPut (L1 := [(ab, _)]) M (Or.inr ht3) K hr3; clear K hr3; simp only [List.cons_append, List.nil_append] at M)
        | ((with_reducible apply W_loadCell); rfl; exact M.kept.row hc (by simp); exact k5; exact Salg.underlying111; rfl; simp only [Act.put, List.setIfInBounds_toArray, List.set_cons_zero, List.set_cons_succ])
        | ((with_reducible apply L_run); rfl; exact run_nonnil rfl rfl Salg.underlying111 guard111; (try simp only [Option.isNone_none, Option.isNone_some, Bool.not_true, Bool.not_false]); simp only [Act.put, List.setIfInBounds_toArray, List.set_cons_zero, List.set_cons_succ]))
      go_loopw [127] (fun iv wx => iv = .int .i64 0 ∧ Mem w [] [(ab, .cells ((acN 1 n0 b0 c0 nilS).cells ++ (acN 2 n1 b1 c1 nilS).cells ++ (acN 240 n2 b2 nilS nilS).cells).toArray 128 (0, 0)), (t3, .cells (wrow4 (.slice (some ⟨ab, 0, none⟩) 3 3) a1 nilS r3).toArray 113 (0, 0)), (t2, .cells (wrow4 nilS nilS nilS nilS).toArray 113 (0, 0))] wx ∧ NumV wx r3 R ∧ NumV wx n0 N1 ∧ NumV wx b0 B1 ∧ NatV wx c0 ds1 ∧ NumV wx n1 N2 ∧ NumV wx b1 B2 ∧ NatV wx c1 ds2 ∧ NumV wx n2 N3 ∧ NumV wx b2 B3 ∧ AdsV wx a1 la) (fun _ _ => 0)
      case atStart => exact ⟨rfl, M, HR3.out, Hn0.out, Hb0.out, Hc0.out, Hn1.out, Hb1.out, Hc1.out, Hn2.out, Hb2.out, HAD.out⟩
      case round =>
        clear M HR3 Hn0 Hb0 Hc0 Hn1 Hb1 Hc1 Hn2 Hb2 HAD
        obtain ⟨rfl, M, xHR3, xHn0, xHb0, xHc0, xHn1, xHb1, xHc1, xHn2, xHb2, xHAD⟩ := hrel
        have HR3 := hid xHR3
        have Hn0 := hid xHn0
        have Hb0 := hid xHb0
        have Hc0 := hid xHc0
        have Hn1 := hid xHn1
        have Hb1 := hid xHb1
        have Hc1 := hid xHc1
        have Hn2 := hid xHn2
        have Hb2 := hid xHb2
        have HAD := hid xHAD
        clear xHR3 xHn0 xHb0 xHc0 xHn1 xHb1 xHc1 xHn2 xHb2 xHAD
        go_wp2_with (first
          | ((with_reducible apply W_loadCell); rfl; exact M.kept.row hc (by simp); exact k2; exact Salg.underlying110; rfl; simp only [Act.put, List.setIfInBounds_toArray, List.set_cons_zero, List.set_cons_succ])
          | ((with_reducible apply L_run); rfl; exact run_nonnil rfl rfl Salg.underlying110 guard110; (try simp only [Option.isNone_none, Option.isNone_some, Bool.not_true, Bool.not_false]); simp only [Act.put, List.setIfInBounds_toArray, List.set_cons_zero, List.set_cons_succ]))
        go_loopw [163] (fun iv wx => iv = .int .i64 0 ∧ Mem w [] [(ab, .cells ((acN 1 n0 b0 c0 nilS).cells ++ (acN 2 n1 b1 c1 nilS).cells ++ (acN 240 n2 b2 nilS nilS).cells).toArray 128 (0, 0)), (t3, .cells (wrow4 (.slice (some ⟨ab, 0, none⟩) 3 3) a1 nilS r3).toArray 113 (0, 0)), (t2, .cells (wrow4 nilS nilS nilS nilS).toArray 113 (0, 0))] wx ∧ NumV wx r3 R ∧ NumV wx n0 N1 ∧ NumV wx b0 B1 ∧ NatV wx c0 ds1 ∧ NumV wx n1 N2 ∧ NumV wx b1 B2 ∧ NatV wx c1 ds2 ∧ NumV wx n2 N3 ∧ NumV wx b2 B3 ∧ AdsV wx a1 la) (fun _ _ => 0)
        case atStart => exact ⟨rfl, M, HR3.out, Hn0.out, Hb0.out, Hc0.out, Hn1.out, Hb1.out, Hc1.out, Hn2.out, Hb2.out, HAD.out⟩
        case round =>
          clear M HR3 Hn0 Hb0 Hc0 Hn1 Hb1 Hc1 Hn2 Hb2 HAD
          obtain ⟨rfl, M, xHR3, xHn0, xHb0, xHc0, xHn1, xHb1, xHc1, xHn2, xHb2, xHAD⟩ := hrel
          have HR3 := hid xHR3
          have Hn0 := hid xHn0
          have Hb0 := hid xHb0
          have Hc0 := hid xHc0
          have Hn1 := hid xHn1
          have Hb1 := hid xHb1
          have Hc1 := hid xHc1
          have Hn2 := hid xHn2
          have Hb2 := hid xHb2
          have HAD := hid xHAD
          clear xHR3 xHn0 xHb0 xHc0 xHn1 xHb1 xHc1 xHn2 xHb2 xHAD
          have HONE3 := hid (wrow4_one (a0 := (.slice (some ⟨ab, 0, none⟩) 3 3)) (a2 := nilS) rfl HAD1.out rfl HR3.out.one)
          go_wp2_with (first
            | ((with_reducible apply W_loadAll); rfl; exact M.r1; exact Salg.underlying113; rfl; exact size113; simp only [Act.put, List.setIfInBounds_toArray, List.set_cons_zero, List.set_cons_succ])
            | ((with_reducible apply W_storeK (b := t2) (vs := (wrow4 (.slice (some ⟨ab, 0, none⟩) 3 3) a1 nilS r3).toArray)); rfl; rfl; exact M.r2; exact size113; rfl; exact HONE3.out; intro w14 K hr3; replace HR3 := hid (HR3.out.keptC K M.r2 (wrow4_nb _ _ _ _)); replace Hn0 := hid (Hn0.out.keptC K M.r2 (wrow4_nb _ _ _ _)); replace Hb0 := hid (Hb0.out.keptC K M.r2 (wrow4_nb _ _ _ _)); replace Hc0 := hid (Hc0.out.keptC K M.r2 (wrow4_nb _ _ _ _)); replace Hn1 := hid (Hn1.out.keptC K M.r2 (wrow4_nb _ _ _ _)); replace Hb1 := hid (Hb1.out.keptC K M.r2 (wrow4_nb _ _ _ _)); replace Hc1 := hid (Hc1.out.keptC K M.r2 (wrow4_nb _ _ _ _)); replace Hn2 := hid (Hn2.out.keptC K M.r2 (wrow4_nb _ _ _ _)); replace Hb2 := hid (Hb2.out.keptC K M.r2 (wrow4_nb _ _ _ _)); replace HAD := hid (HAD.out.keptC K M.r2 (by decide)); replace M := Mem.callPut (L1 := [(ab, _), (t3, _)]) M (Or.inr ht2) K hr3; clear K hr3; simp only [List.cons_append, List.nil_append] at M))
          refine ret_cell1 Salg.results171 rfl M.r2 Salg.underlying113 rfl size113 rfl ⟨_, _, _, _, rfl, ?_, M.kept⟩
          refine ⟨n0, b0, c0, nilS, n1, b1, c1, n2, b2, ⟨own_rowS (n := 3) (s := 24) M.r0 (by kernel_rfl) (by decide), ?_, by simp [l3]⟩, HAD.out, rfl, HR3.out, rfl, Hn0.out, Hb0.out, Hc0.out, Hn1.out, Hb1.out, Hc1.out, Hn2.out, Hb2.out⟩
          intro p hp
          simp [l3] at hp
          rcases hp with rfl | rfl | rfl
          · exact ⟨rfl, rfl, (by intro x hx; simp [acN] at hx; rcases hx with rfl | rfl | rfl | rfl; exact Hn0.out.one; exact Hb0.out.one; exact Hc0.out.one; rfl), (ad_ok 1 (by decide)).hs⟩
          · exact ⟨rfl, rfl, (by intro x hx; simp [acN] at hx; rcases hx with rfl | rfl | rfl | rfl; exact Hn1.out.one; exact Hb1.out.one; exact Hc1.out.one; rfl), (ad_ok 2 (by decide)).hs⟩
          · exact ⟨rfl, rfl, (by intro x hx; simp [acN] at hx; rcases hx with rfl | rfl | rfl; exact Hn2.out.one; exact Hb2.out.one; rfl), (ad_ok 240 (by decide)).hs⟩
end Go.Proofs.YgcsalGreat

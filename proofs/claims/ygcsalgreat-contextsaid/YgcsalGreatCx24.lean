/-
  The walk of (*yp.State).enter at a creation, clone, setNonce and move given.
-/
import Derived.Test.YgcsalGreatCx23
set_option linter.unusedSimpArgs false
set_option linter.unusedVariables false
namespace Go.Proofs.YgcsalGreat
open Go.RowKit Go.Own

set_option maxHeartbeats 4000000 in
set_option maxRecDepth 100000 in
theorem enterC0 (c fb cap kd cl : Nat) (sf : List Nat) (sb : Bool) (fs : Array Value) (la : List (List Nat)) (E : XEnv) (rt gv vv cu iu : Value) (Acc : World → Value → Prop) (w : World) (hC : ChY w c E (nilS) rt la) (hSt : Still Acc) (g1 : gv.oneCell' = true) (g2 : vv.oneCell' = true) (g3 : cu.oneCell' = true) (g4 : iu.oneCell' = true) (hkd : kd ≠ 3 ∧ kd ≠ 7) (hcr : ∀ w, Calls Salg.prog 172 #[.int .u8 (kd : Int)] w fun e w' => e = .returned (.bool true) ∧ w' = w) (hsl : sf.length = 20) (hss : Small sf) (hmd : E.md = nilS) (Acc1 : World → Value → Prop) (hSt1 : Still Acc1)
    (hCl : ∀ w', Kept [] w w' → Calls Salg.prog 171 #[.pointer (some ⟨c, 0, none⟩)] w' fun e w'' => ∃ a0 a1 a3 a6 : Value, e = .returned (.agg (wrow5 a0 a1 a3 a6).toArray) ∧ a0.oneCell' = true ∧ a1.oneCell' = true ∧ a3.oneCell' = true ∧ a6.oneCell' = true ∧ Kept [] w' w'')
    (hSN : ∀ w' n1, Kept [] w w' → NumV w' n1 1 → Calls Salg.prog 91 #[.pointer (some ⟨c, 0, none⟩), A8 sf, n1] w' fun e w'' => ∃ (r vz1 : Value), e = .returned r ∧ ChY w'' c { E with vz := vz1 } (nilS) rt la ∧ Acc1 w'' vz1 ∧ Kept [c] w' w'')
    (hMv : ∀ w' vz1 md, Kept [c] w w' → ChY w' c { E with vz := vz1, md := md } (nilS) rt la → Acc1 w' vz1 → Calls Salg.prog 173 #[.pointer (some ⟨c, 0, none⟩), A8 (ad cl), A8 sf, vv] w' fun e w'' => ∃ (r vz' : Value), e = .returned r ∧ ChY w'' c { E with vz := vz', md := md } (nilS) rt la ∧ Acc w'' vz' ∧ Kept [c] w' w'') :
    Calls Salg.prog 98 #[.pointer (some ⟨c, 0, none⟩), .agg (frG kd sb gv vv cu iu sf (ad cl) (wrow5 nilS nilS nilS nilS)).toArray] w fun e w' => ∃ (r : Value) (fb' cap' : Nat) (cur : Array Value) (a0 a1 a3 a6 vz' md : Value), e = .returned r ∧ md.oneCell' = true ∧ ChY w' c { E with vz := vz', md := md } (.slice (some ⟨fb', 0, none⟩) 1 cap') nilS la ∧ w'.heap[fb']? = some (.cells cur 142 (0, 0)) ∧ w.heap.size ≤ fb' ∧ (∀ k, k < 60 → cur[0 + k]? = (frG kd sb gv vv cu iu sf (ad cl) (wrow5 a0 a1 a3 a6))[k]?) ∧ cur.size = cap' * 60 ∧ cap' ≤ maxLen ∧ 1 ≤ cap' ∧ a0.oneCell' = true ∧ a1.oneCell' = true ∧ a3.oneCell' = true ∧ a6.oneCell' = true ∧ Acc w' vz' ∧ Kept [c] w w' := by
  obtain ⟨b0, b1, b2, b3, b4, b5, b6, b7, b8, b9, b10, b11, b12, b13, b14, b15, b16, b17, b18, b19, rfl⟩ := list20 hsl
  have HSS := hid hss
  have M := Mem.start w []
  have HCL := hid hCl
  have HMV := hid hMv
  have HSN := hid hSN
  have HS1 := hid hSt1
  have HMD := hid hmd
  have HCR := hid hcr
  have HC := hid hC
  have HST := hid hSt
  have dk3 : decide ((kd : Int) = 3) = false := by simp; omega
  have ek3 : decide (kd = 3) = false := by simp; omega
  have bk3 : ((kd : Int) == 3) = false := by rw [beq_eq_false_iff_ne]; omega
  have ck3 : ((kd : Int) != 3) = true := by rw [bne_iff_ne]; omega
  have dk7 : decide ((kd : Int) = 7) = false := by simp; omega
  have ek7 : decide (kd = 7) = false := by simp; omega
  have bk7 : ((kd : Int) == 7) = false := by rw [beq_eq_false_iff_ne]; omega
  have ck7 : ((kd : Int) != 7) = true := by rw [bne_iff_ne]; omega
  have hcl0 : c < w.heap.size := by
    obtain ⟨wz, c1, c2⟩ := hC
    exact lt_of_row c1
  clear hC hSt  hCl hcr hMv hkd hSN hSt1 hmd
  go_enter Salg.func98, Salg.ntmps98
  go_wp2_with ((with_reducible apply L_box M); rfl; clear M; intro t3 w1 ht3 M; simp only [Act.put, List.setIfInBounds_toArray, List.set_cons_zero, List.set_cons_succ])
  refine (HCL.out _ M.kept).mono ?_
  rintro e w2 ⟨a0, a1, a3, a6, rfl, y0, y1, y2, y3, K1⟩
  have X0 := hid y0
  have X1 := hid y1
  have X2 := hid y2
  have X3 := hid y3
  replace M := M.call K1
  clear K1 y0 y1 y2 y3 HCL
  have HONE := hid (wrow5_oneL X0.out X1.out X2.out X3.out)
  have hc3 : c ≠ t3 := by omega
  go_wp2_with (first
    | ((with_reducible apply W_stP (b := t3) (o := 52) (n := 8) (v := .agg (wrow5 a0 a1 a3 a6).toArray) (rs := (frG kd sb gv vv cu iu [b0, b1, b2, b3, b4, b5, b6, b7, b8, b9, b10, b11, b12, b13, b14, b15, b16, b17, b18, b19] (ad cl) (wrow5 a0 a1 a3 a6)).toArray)); rfl; rfl; exact M.r0; exact size113; rfl; exact HONE.out; exact Nat.le_of_ble_eq_true (by kernel_rfl); kernel_rfl; intro w3 K1 hr3; replace M := Mem.callPut (L1 := []) M (Or.inr ht3) K1 hr3; clear K1 hr3; simp only [List.nil_append] at M)
    | ((with_reducible apply W_loadCell); rfl; exact M.r0; exact (show (frG kd sb gv vv cu iu [b0, b1, b2, b3, b4, b5, b6, b7, b8, b9, b10, b11, b12, b13, b14, b15, b16, b17, b18, b19] (ad cl) (wrow5 a0 a1 a3 a6)).toArray[0]? = some (.int .u8 (kd : Int)) by kernel_rfl); exact Salg.underlying5; rfl; simp only [Act.put, List.setIfInBounds_toArray, List.set_cons_zero, List.set_cons_succ]))
  refine (HCR.out _).mono ?_
  rintro e w4 ⟨rfl, hw⟩
  replace hw := hw.symm
  subst hw
  have HKN := hid M.kept
  replace M : Mem w [c] _ _ := (M.into (o := (w3.heap[c]?).getD default) (by
    have := M.kept.size
    rw [Array.getElem?_eq_getElem (by omega)]
    rfl) (by simpa using hc3)).tail
  go_wp2_with fail
  refine S_region (by kernel_rfl) ?_
  replace HKN := hid (HKN.out.trans (Kept.refl [] _).drew)
  refine E_stage 0 6 [0, 1, 2, 3, 4, 5] (by kernel_rfl) M.drew ?_
  clear M
  simp only [List.filterMap_cons, List.filterMap_nil, List.getElem?_cons_zero, List.getElem?_cons_succ]
  ((with_reducible apply E_run); rfl; rfl; (intro w M; go_simp; (try go_ints); (try simp only [↓IntWalk.iteOmega]); (try with_reducible rfl)); simp only [Act.put, List.setIfInBounds_toArray, List.set_cons_zero, List.set_cons_succ])
  ((with_reducible apply E_run); rfl; rfl; (intro w M; go_simp; (try go_ints); (try simp only [↓IntWalk.iteOmega]); (try with_reducible rfl)); simp only [Act.put, List.setIfInBounds_toArray, List.set_cons_zero, List.set_cons_succ])
  ((with_reducible apply E_run); rfl; rfl; (intro w M; go_simp; (try go_ints); (try simp only [↓IntWalk.iteOmega]); (try with_reducible rfl)); simp only [Act.put, List.setIfInBounds_toArray, List.set_cons_zero, List.set_cons_succ])
  ((with_reducible apply E_run); rfl; rfl; (intro w M; go_simp; (try go_ints); (try simp only [↓IntWalk.iteOmega]); (try with_reducible rfl)); simp only [Act.put, List.setIfInBounds_toArray, List.set_cons_zero, List.set_cons_succ])
  ((with_reducible apply E_run (v := .agg ([b0, b1, b2, b3, b4, b5, b6, b7, b8, b9, b10, b11, b12, b13, b14, b15, b16, b17, b18, b19].map n8).toArray)); rfl; rfl; (intro w M; exact run_loadX (n := 20) M.r0 rfl Salg.underlying45 rfl size45 (Nat.le_of_ble_eq_true (by kernel_rfl)) (show (frG kd sb gv vv cu iu [b0, b1, b2, b3, b4, b5, b6, b7, b8, b9, b10, b11, b12, b13, b14, b15, b16, b17, b18, b19] (ad cl) (wrow5 a0 a1 a3 a6)).toArray.extract 12 (12 + 20) = _ by kernel_rfl)); simp only [Act.put, List.setIfInBounds_toArray, List.set_cons_zero, List.set_cons_succ])
  refine E_call rfl Salg.func87 (by kernel_rfl) (by kernel_rfl) (args := [.int .u64 1]) rfl ?_
  intro w4 K M
  replace HKN := hid (HKN.out.trans K)
  clear K
  refine (num_int _ 1 rfl (by decide) _).mono ?_
  rintro e w5 ⟨n1, rfl, hn1, K⟩
  replace M := M.call K
  replace HKN := hid (HKN.out.trans K)
  have HN1 := hid hn1
  refine ⟨_, rfl, trivial, M, ?_⟩
  clear K hn1
  simp only [Act.put, List.setIfInBounds_toArray, List.set_cons_zero, List.set_cons_succ]
  refine E_nil ?_
  intro w6 K M
  replace HKN := hid (HKN.out.trans K)
  replace HN1 := hid (HN1.out.kept K)
  clear K
  refine S_seg 6 7 (by kernel_rfl) (by decide) ?_
  simp only [List.take_succ_cons, List.take_zero, List.drop_zero, List.drop_succ_cons, Nat.sub_zero, Nat.reduceSub]
  go_wp2_with fail
  refine (HSN.out _ n1 HKN.out HN1.out).mono ?_
  rintro e w7 ⟨rr, vz1, rfl, ⟨wz, c1, c2⟩, xA, K⟩
  replace M := M.callX K (by simp) (by simpa using hc3)
  replace M := M.add c1 (by simpa using hc3)
  have HWZ := hid c2
  have HA1 := hid xA
  clear K c1 c2 xA HN1 HKN
  go_wp2_with fail
  refine S_done ?_
  go_wp2_with fail
  refine S_region (by kernel_rfl) ?_
  replace HWZ := hid (HWZ.out.kept (Kept.refl [] w7).drew)
  replace HA1 := hid (HS1.out.kept HA1.out (Kept.refl [] w7).drew)
  refine E_stage 0 9 [0, 1, 2, 3, 4, 5, 6, 7, 8] (by kernel_rfl) M.drew ?_
  clear M
  simp only [List.filterMap_cons, List.filterMap_nil, List.getElem?_cons_zero, List.getElem?_cons_succ]
  ((with_reducible apply E_run); rfl; rfl; (intro w M; go_simp; (try go_ints); (try simp only [↓IntWalk.iteOmega]); (try with_reducible rfl)); simp only [Act.put, List.setIfInBounds_toArray, List.set_cons_zero, List.set_cons_succ])
  ((with_reducible apply E_run); rfl; rfl; (intro w M; go_simp; (try go_ints); (try simp only [↓IntWalk.iteOmega]); (try with_reducible rfl)); simp only [Act.put, List.setIfInBounds_toArray, List.set_cons_zero, List.set_cons_succ])
  ((with_reducible apply E_run); rfl; rfl; (intro w M; go_simp; (try go_ints); (try simp only [↓IntWalk.iteOmega]); (try with_reducible rfl)); simp only [Act.put, List.setIfInBounds_toArray, List.set_cons_zero, List.set_cons_succ])
  ((with_reducible apply E_run); rfl; rfl; (intro w M; go_simp; (try go_ints); (try simp only [↓IntWalk.iteOmega]); (try with_reducible rfl)); simp only [Act.put, List.setIfInBounds_toArray, List.set_cons_zero, List.set_cons_succ])
  ((with_reducible apply E_run); rfl; rfl; (intro w M; go_simp; (try go_ints); (try simp only [↓IntWalk.iteOmega]); (try with_reducible rfl)); simp only [Act.put, List.setIfInBounds_toArray, List.set_cons_zero, List.set_cons_succ])
  ((with_reducible apply E_run); rfl; rfl; (intro w M; exact run_loadCell (M.r0) rfl (show (chN { E with vz := vz1 } wz (nilS) rt)[6]? = some E.md by kernel_rfl) Salg.underlying109 rfl); simp only [Act.put, List.setIfInBounds_toArray, List.set_cons_zero, List.set_cons_succ])
  ((with_reducible apply E_run); rfl; rfl; (intro w M; go_simp; (try go_ints); (try simp only [↓IntWalk.iteOmega]); (try with_reducible rfl)); simp only [Act.put, List.setIfInBounds_toArray, List.set_cons_zero, List.set_cons_succ])
  ((with_reducible apply E_run (v := .agg ([b0, b1, b2, b3, b4, b5, b6, b7, b8, b9, b10, b11, b12, b13, b14, b15, b16, b17, b18, b19].map n8).toArray)); rfl; rfl; (intro w M; exact run_loadX (n := 20) M.r1 rfl Salg.underlying45 rfl size45 (Nat.le_of_ble_eq_true (by kernel_rfl)) (show (frG kd sb gv vv cu iu [b0, b1, b2, b3, b4, b5, b6, b7, b8, b9, b10, b11, b12, b13, b14, b15, b16, b17, b18, b19] (ad cl) (wrow5 a0 a1 a3 a6)).toArray.extract 12 (12 + 20) = _ by kernel_rfl)); simp only [Act.put, List.setIfInBounds_toArray, List.set_cons_zero, List.set_cons_succ])
  refine E_call rfl Salg.func167 (by kernel_rfl) (by kernel_rfl) (args := [E.md, A8 [b0, b1, b2, b3, b4, b5, b6, b7, b8, b9, b10, b11, b12, b13, b14, b15, b16, b17, b18, b19]]) rfl ?_
  intro w4 K M
  replace HWZ := hid (HWZ.out.kept K)
  replace HA1 := hid (HS1.out.kept HA1.out K)
  clear K
  refine (withAddr_any E.md [] [b0, b1, b2, b3, b4, b5, b6, b7, b8, b9, b10, b11, b12, b13, b14, b15, b16, b17, b18, b19] _ (by rw [HMD.out]; exact AdsV.nil0 _) ⟨rfl, HSS.out⟩ (by decide)).mono ?_
  rintro e w5 ⟨md, rfl, hm1, K⟩
  replace M := M.call K
  replace HWZ := hid (HWZ.out.kept K)
  replace HA1 := hid (HS1.out.kept HA1.out K)
  have HM1 : Hid (md.oneCell' = true) := hm1.one
  refine ⟨_, rfl, trivial, M, ?_⟩
  clear K hm1
  simp only [Act.put, List.setIfInBounds_toArray, List.set_cons_zero, List.set_cons_succ]
  refine E_nil ?_
  intro w6 K M
  replace HWZ := hid (HWZ.out.kept K)
  replace HA1 := hid (HS1.out.kept HA1.out K)
  clear K
  refine S_seg 9 13 (by kernel_rfl) (by decide) ?_
  simp only [List.take_succ_cons, List.take_zero, List.drop_zero, List.drop_succ_cons, Nat.sub_zero, Nat.reduceSub]
  go_wp2_with ((with_reducible apply W_stV (b := c) (o := 6) (v := md)); rfl; rfl; exact HM1.out; exact M.r0; exact size109; exact Nat.le_of_ble_eq_true (by kernel_rfl); intro w8 K1 hr5)
  rw [show (chN { E with vz := vz1 } wz (nilS) rt).setIfInBounds 6 md = (chN { E with vz := vz1, md := md } wz (nilS) rt) from by kernel_rfl] at hr5
  replace HWZ := hid (HWZ.out.keptC K1 M.r0 (by decide))
  replace HA1 := hid (HS1.out.keptC HA1.out K1 M.r0 (chy_nb _ _ _ _) (.inl rfl))
  replace M := Mem.callPut (L1 := []) M (Or.inl (by simp)) K1 hr5
  clear K1 hr5
  simp only [List.nil_append] at M
  refine S_done ?_
  have HC1 : Hid (ChY w8 c { E with vz := vz1, md := md } (nilS) rt la) := ⟨wz, M.r0, HWZ.out⟩
  clear HWZ
  replace M := M.tail
  go_wp2_with (first
    | ((with_reducible apply W_loadCell); rfl; exact M.r0; exact (show (frG kd sb gv vv cu iu [b0, b1, b2, b3, b4, b5, b6, b7, b8, b9, b10, b11, b12, b13, b14, b15, b16, b17, b18, b19] (ad cl) (wrow5 a0 a1 a3 a6)).toArray[0]? = some (.int .u8 (kd : Int)) by kernel_rfl); exact Salg.underlying5; rfl; simp only [Act.put, List.setIfInBounds_toArray, List.set_cons_zero, List.set_cons_succ])
    | ((with_reducible apply W_loadCellG); rfl; rfl; exact M.r0; exact (show (frG kd sb gv vv cu iu [b0, b1, b2, b3, b4, b5, b6, b7, b8, b9, b10, b11, b12, b13, b14, b15, b16, b17, b18, b19] (ad cl) (wrow5 a0 a1 a3 a6)).toArray[0]? = some (.int .u8 (kd : Int)) by kernel_rfl); exact Salg.underlying5; rfl; simp only [Act.put, List.setIfInBounds_toArray, List.set_cons_zero, List.set_cons_succ]))
  refine S_region (by kernel_rfl) ?_
  replace HC1 := hid (HC1.out.kept (Kept.refl [] w8).drew)
  replace HA1 := hid (HS1.out.kept HA1.out (Kept.refl [] w8).drew)
  refine E_stage 0 10 [0, 1, 2, 3, 4, 5, 6, 7, 8, 9] (by kernel_rfl) M.drew ?_
  clear M
  simp only [List.filterMap_cons, List.filterMap_nil, List.getElem?_cons_zero, List.getElem?_cons_succ]
  ((with_reducible apply E_run); rfl; rfl; (intro w M; go_simp; (try go_ints); (try simp only [↓IntWalk.iteOmega]); (try with_reducible rfl)); simp only [Act.put, List.setIfInBounds_toArray, List.set_cons_zero, List.set_cons_succ])
  ((with_reducible apply E_run); rfl; rfl; (intro w M; go_simp; (try go_ints); (try simp only [↓IntWalk.iteOmega]); (try with_reducible rfl)); simp only [Act.put, List.setIfInBounds_toArray, List.set_cons_zero, List.set_cons_succ])
  ((with_reducible apply E_run); rfl; rfl; (intro w M; go_simp; (try go_ints); (try simp only [↓IntWalk.iteOmega]); (try with_reducible rfl)); simp only [Act.put, List.setIfInBounds_toArray, List.set_cons_zero, List.set_cons_succ])
  ((with_reducible apply E_run); rfl; rfl; (intro w M; go_simp; (try go_ints); (try simp only [↓IntWalk.iteOmega]); (try with_reducible rfl)); simp only [Act.put, List.setIfInBounds_toArray, List.set_cons_zero, List.set_cons_succ])
  ((with_reducible apply E_run (v := .agg ((ad cl).map n8).toArray)); rfl; rfl; (intro w M; exact run_loadX (n := 20) M.r0 rfl Salg.underlying45 rfl size45 (Nat.le_of_ble_eq_true (by kernel_rfl)) (show (frG kd sb gv vv cu iu [b0, b1, b2, b3, b4, b5, b6, b7, b8, b9, b10, b11, b12, b13, b14, b15, b16, b17, b18, b19] (ad cl) (wrow5 a0 a1 a3 a6)).toArray.extract 32 (32 + 20) = _ by kernel_rfl)); simp only [Act.put, List.setIfInBounds_toArray, List.set_cons_zero, List.set_cons_succ])
  ((with_reducible apply E_run); rfl; rfl; (intro w M; go_simp; (try go_ints); (try simp only [↓IntWalk.iteOmega]); (try with_reducible rfl)); simp only [Act.put, List.setIfInBounds_toArray, List.set_cons_zero, List.set_cons_succ])
  ((with_reducible apply E_run (v := .agg ([b0, b1, b2, b3, b4, b5, b6, b7, b8, b9, b10, b11, b12, b13, b14, b15, b16, b17, b18, b19].map n8).toArray)); rfl; rfl; (intro w M; exact run_loadX (n := 20) M.r0 rfl Salg.underlying45 rfl size45 (Nat.le_of_ble_eq_true (by kernel_rfl)) (show (frG kd sb gv vv cu iu [b0, b1, b2, b3, b4, b5, b6, b7, b8, b9, b10, b11, b12, b13, b14, b15, b16, b17, b18, b19] (ad cl) (wrow5 a0 a1 a3 a6)).toArray.extract 12 (12 + 20) = _ by kernel_rfl)); simp only [Act.put, List.setIfInBounds_toArray, List.set_cons_zero, List.set_cons_succ])
  ((with_reducible apply E_run); rfl; rfl; (intro w M; go_simp; (try go_ints); (try simp only [↓IntWalk.iteOmega]); (try with_reducible rfl)); simp only [Act.put, List.setIfInBounds_toArray, List.set_cons_zero, List.set_cons_succ])
  ((with_reducible apply E_run); rfl; rfl; (intro w M; exact run_loadCell (M.r0) rfl (show (frG kd sb gv vv cu iu [b0, b1, b2, b3, b4, b5, b6, b7, b8, b9, b10, b11, b12, b13, b14, b15, b16, b17, b18, b19] (ad cl) (wrow5 a0 a1 a3 a6)).toArray[5]? = some vv by kernel_rfl) Salg.underlying89 rfl); simp only [Act.put, List.setIfInBounds_toArray, List.set_cons_zero, List.set_cons_succ])
  refine E_call rfl Salg.func173 (by kernel_rfl) (by kernel_rfl) (args := [.pointer (some ⟨c, 0, none⟩), A8 (ad cl), A8 [b0, b1, b2, b3, b4, b5, b6, b7, b8, b9, b10, b11, b12, b13, b14, b15, b16, b17, b18, b19], vv]) rfl ?_
  intro w4 K M
  refine (HMV.out _ vz1 md M.kept (HC1.out.kept K) (HS1.out.kept HA1.out K)).mono ?_
  clear K
  rintro e w5 ⟨rr, vz, rfl, xC, xA, K⟩
  replace M := M.callX K (by simp) (by simpa using hc3)
  have HC2 := hid xC
  have HA2 := hid xA
  refine ⟨_, rfl, trivial, M, ?_⟩
  clear K xC xA
  simp only [Act.put, List.setIfInBounds_toArray, List.set_cons_zero, List.set_cons_succ]
  refine E_nil ?_
  intro w6 K M
  replace HC2 := hid (HC2.out.kept K)
  replace HA2 := hid (HST.out.kept HA2.out K)
  clear K HC HC1 HA1
  refine S_done ?_
  have H3 := hid M.r0
  obtain ⟨EE, hEE⟩ : ∃ EE : XEnv, EE = { E with vz := vz, md := md } := ⟨_, rfl⟩
  rw [← hEE] at HC2
  have HEE := hid hEE
  clear hEE
  obtain ⟨wz, c1, c2⟩ := HC2.out
  have h3c : t3 ∉ [c] := row_ne c1 H3.out (by intro h; injection h with _ h _; exact absurd h (by decide))
  have HO := hid (chy_nb EE wz (nilS) rt)
  have HO' := hid (chy_nb EE wz (nilS) nilS)
  have HC3 := hid c2
  have HK : Hid (Kept [c] w w6) := M.kept.mono (by simp)
  clear c2 HC2 M 
  go_wp2_with ((with_reducible apply W_stV (b := c) (o := 10) (v := nilS)); rfl; rfl; rfl; exact c1; exact size40; exact Nat.le_of_ble_eq_true (by kernel_rfl); intro w7 K1 hr5)
  rw [show (chN EE wz (nilS) rt).setIfInBounds 10 nilS = (chN EE wz (nilS) nilS) from by kernel_rfl] at hr5
  replace H3 := hid (K1.row H3.out h3c)
  skip
  replace HC3 := hid (HC3.out.keptC K1 c1 (by decide))
  replace HA2 := hid (HST.out.keptC HA2.out K1 c1 HO.out (.inl rfl))
  replace HK := hid (HK.out.trans (K1.mono (by simp)))
  clear c1 K1
  have M := Mem.start w7 []
  have hcl5 := lt_of_row hr5
  have h3l := lt_of_row H3.out
  have hw5 := HK.out.size
  have HOF := hid (own_nil w7 0 142 60)
  refine S_region (by kernel_rfl) ?_
  replace HOF := hid (own_kept HOF.out (Kept.refl [] _).drew)
  refine E_stage 0 8 [0, 1, 2, 3, 4, 5, 6, 7] (by kernel_rfl) M.drew ?_
  clear M
  simp only [List.filterMap_cons, List.filterMap_nil, List.getElem?_cons_zero, List.getElem?_cons_succ]
  ((with_reducible apply E_run); rfl; rfl; (intro w M; go_simp; (try go_ints); (try simp only [↓IntWalk.iteOmega]); (try with_reducible rfl)); simp only [Act.put, List.setIfInBounds_toArray, List.set_cons_zero, List.set_cons_succ])
  ((with_reducible apply E_run); rfl; rfl; (intro w M; go_simp; (try go_ints); (try simp only [↓IntWalk.iteOmega]); (try with_reducible rfl)); simp only [Act.put, List.setIfInBounds_toArray, List.set_cons_zero, List.set_cons_succ])
  ((with_reducible apply E_run); rfl; rfl; (intro w M; go_simp; (try go_ints); (try simp only [↓IntWalk.iteOmega]); (try with_reducible rfl)); simp only [Act.put, List.setIfInBounds_toArray, List.set_cons_zero, List.set_cons_succ])
  ((with_reducible apply E_run); rfl; rfl; (intro w M; go_simp; (try go_ints); (try simp only [↓IntWalk.iteOmega]); (try with_reducible rfl)); simp only [Act.put, List.setIfInBounds_toArray, List.set_cons_zero, List.set_cons_succ])
  ((with_reducible apply E_run); rfl; rfl; (intro w M; exact run_loadCell (M.kept.row hr5 (by simp)) rfl (show (chN EE wz (nilS) nilS)[9]? = some (nilS) by kernel_rfl) Salg.underlying115 rfl); simp only [Act.put, List.setIfInBounds_toArray, List.set_cons_zero, List.set_cons_succ])
  ((with_reducible apply E_run); rfl; rfl; (intro w M; exact run_loadAll (M.kept.row H3.out (by simp)) rfl Salg.underlying142 rfl (by kernel_rfl)); simp only [Act.put, List.setIfInBounds_toArray, List.set_cons_zero, List.set_cons_succ])
  refine E_buildIt (vs := (frG kd sb gv vv cu iu [b0, b1, b2, b3, b4, b5, b6, b7, b8, b9, b10, b11, b12, b13, b14, b15, b16, b17, b18, b19] (ad cl) (wrow5 a0 a1 a3 a6)).toArray) (s := 60) rfl rfl Salg.underlying115 size142 zero142s rfl (by decide) (by decide) ?_
  intro bn wa wb K1 hbn hbn2 K2 M
  replace HOF := hid (own_kept (own_kept HOF.out K1) K2)
  have hbw2 := M.kept.size
  clear K1 K2
  simp only [Act.put, List.setIfInBounds_toArray, List.set_cons_zero, List.set_cons_succ]
  refine E_appendY (base := 0) (n := 0) (m := 1) (s := 60) (bn := bn) (so := 0) (xs := []) (news := (frG kd sb gv vv cu iu [b0, b1, b2, b3, b4, b5, b6, b7, b8, b9, b10, b11, b12, b13, b14, b15, b16, b17, b18, b19] (ad cl) (wrow5 a0 a1 a3 a6))) (cs := (frG kd sb gv vv cu iu [b0, b1, b2, b3, b4, b5, b6, b7, b8, b9, b10, b11, b12, b13, b14, b15, b16, b17, b18, b19] (ad cl) (wrow5 a0 a1 a3 a6)).toArray) info142 Salg.underlying115 rfl (by decide) (by decide) rfl rfl HOF.out (by decide) M.r0 rfl (cells_news _) (frG_oneL g1 g2 g3 g4 X0.out X1.out X2.out X3.out) (Nat.zero_le _) (by intro q hq; cases hq) (by intro p hp; cases hp) ?_
  clear M
  intro VV wc wd K1 M xO K2 xN
  have HOW := hid xO
  have HNEW : Hid (∀ b, VV.ownBlock = some b → w.heap.size ≤ b) := fun b hb => (xN b hb).elim (fun h => by cases h) (fun h => Nat.le_trans hw5 (Nat.le_trans hbw2 h))
  clear xO K1 K2 HOF xN
  simp only [Act.put, List.setIfInBounds_toArray, List.set_cons_zero, List.set_cons_succ]
  refine E_nil ?_
  intro w8 K1 M
  replace HOW := hid (own_kept HOW.out K1)
  clear K1
  refine S_seg 8 11 (by kernel_rfl) (by decide) ?_
  simp only [List.take_succ_cons, List.take_zero, List.drop_zero, List.drop_succ_cons, Nat.sub_zero, Nat.reduceSub]
  obtain ⟨fb', cap', cur, rfl, z2, z3, z4, z5, z6, z7⟩ := own_more HOW.out rfl (by rfl)
  have hnew := HNEW.out fb' rfl
  have K2' : Kept [] w7 w8 := M.kept
  have hcw := K2'.row hr5 (by simp)
  have HC2' := hid (HC3.out.kept K2')
  replace HA2 := hid (HST.out.kept HA2.out K2')
  replace HK := hid (HK.out.trans (K2'.mono (by simp)))
  have HZ3 := hid z3
  have HZ4 := hid z4
  have hf2 : fb' ∉ [c] := row_ne hcw z2 (by intro h; injection h with _ h _; exact absurd h (by decide))
  clear HOW K2' M HC3 z3 z4 HNEW
  go_wp2_with ((with_reducible apply W_stV (b := c) (o := 9) (v := .slice (some ⟨fb', 0, none⟩) 1 cap')); rfl; rfl; rfl; exact hcw; exact size115; exact Nat.le_of_ble_eq_true (by kernel_rfl); intro w9 K3 hr9)
  refine S_done ?_
  rw [show (chN EE wz (nilS) nilS).setIfInBounds 9 (.slice (some ⟨fb', 0, none⟩) 1 cap') = (chN EE wz (.slice (some ⟨fb', 0, none⟩) 1 cap') nilS) from by kernel_rfl] at hr9
  have HF : Hid (ChY w9 c EE (.slice (some ⟨fb', 0, none⟩) 1 cap') nilS la) := ⟨wz, hr9, HC2'.out.keptC K3 hcw (by decide)⟩
  replace HA2 := hid (HST.out.keptC HA2.out K3 hcw HO'.out (.inl rfl))
  have HK9 := hid (HK.out.trans (K3.mono (by simp)))
  have HZ2 := hid (K3.row z2 hf2)
  clear K3 hr9 hcw z2
  go_wp2_with fail
  go_end0
  rw [HEE.out] at HF
  refine ⟨_, fb', cap', cur, a0, a1, a3, a6, vz, md, rfl, HM1.out, HF.out, HZ2.out, hnew, HZ4.out, z5, z6, z7, X0.out, X1.out, X2.out, X3.out, HA2.out, HK9.out⟩

set_option maxHeartbeats 4000000 in
set_option maxRecDepth 100000 in
theorem enterC1 (c fb cap kd cl : Nat) (sf : List Nat) (sb : Bool) (fs : Array Value) (la : List (List Nat)) (E : XEnv) (rt gv vv cu iu : Value) (Acc : World → Value → Prop) (w : World) (hC : ChY w c E (.slice (some ⟨fb, 0, none⟩) 1 cap) rt la) (hSt : Still Acc) (hr : w.heap[fb]? = some (.cells fs 142 (0, 0))) (hnb : ∀ t l, Obj.cells fs 142 (0, 0) ≠ R8 t l) (hsz : fs.size = cap * 60) (hcap : cap ≤ maxLen) (hc1 : 1 ≤ cap) (g1 : gv.oneCell' = true) (g2 : vv.oneCell' = true) (g3 : cu.oneCell' = true) (g4 : iu.oneCell' = true) (hkd : kd ≠ 3 ∧ kd ≠ 7) (hcr : ∀ w, Calls Salg.prog 172 #[.int .u8 (kd : Int)] w fun e w' => e = .returned (.bool true) ∧ w' = w) (hsl : sf.length = 20) (hss : Small sf) (hmd : E.md = nilS) (Acc1 : World → Value → Prop) (hSt1 : Still Acc1)
    (hCl : ∀ w', Kept [] w w' → Calls Salg.prog 171 #[.pointer (some ⟨c, 0, none⟩)] w' fun e w'' => ∃ a0 a1 a3 a6 : Value, e = .returned (.agg (wrow5 a0 a1 a3 a6).toArray) ∧ a0.oneCell' = true ∧ a1.oneCell' = true ∧ a3.oneCell' = true ∧ a6.oneCell' = true ∧ Kept [] w' w'')
    (hSN : ∀ w' n1, Kept [] w w' → NumV w' n1 1 → Calls Salg.prog 91 #[.pointer (some ⟨c, 0, none⟩), A8 sf, n1] w' fun e w'' => ∃ (r vz1 : Value), e = .returned r ∧ ChY w'' c { E with vz := vz1 } (.slice (some ⟨fb, 0, none⟩) 1 cap) rt la ∧ Acc1 w'' vz1 ∧ Kept [c] w' w'')
    (hMv : ∀ w' vz1 md, Kept [c] w w' → ChY w' c { E with vz := vz1, md := md } (.slice (some ⟨fb, 0, none⟩) 1 cap) rt la → Acc1 w' vz1 → Calls Salg.prog 173 #[.pointer (some ⟨c, 0, none⟩), A8 (ad cl), A8 sf, vv] w' fun e w'' => ∃ (r vz' : Value), e = .returned r ∧ ChY w'' c { E with vz := vz', md := md } (.slice (some ⟨fb, 0, none⟩) 1 cap) rt la ∧ Acc w'' vz' ∧ Kept [c] w' w'') :
    Calls Salg.prog 98 #[.pointer (some ⟨c, 0, none⟩), .agg (frG kd sb gv vv cu iu sf (ad cl) (wrow5 nilS nilS nilS nilS)).toArray] w fun e w' => ∃ (r : Value) (fb' cap' : Nat) (cur : Array Value) (a0 a1 a3 a6 vz' md : Value), e = .returned r ∧ md.oneCell' = true ∧ ChY w' c { E with vz := vz', md := md } (.slice (some ⟨fb', 0, none⟩) 2 cap') nilS la ∧ w'.heap[fb']? = some (.cells cur 142 (0, 0)) ∧ (fb' = fb ∨ w.heap.size ≤ fb') ∧ (∀ k, k < 60 → cur[k]? = fs[k]?) ∧ (∀ k, k < 60 → cur[60 + k]? = (frG kd sb gv vv cu iu sf (ad cl) (wrow5 a0 a1 a3 a6))[k]?) ∧ cur.size = cap' * 60 ∧ cap' ≤ maxLen ∧ 2 ≤ cap' ∧ a0.oneCell' = true ∧ a1.oneCell' = true ∧ a3.oneCell' = true ∧ a6.oneCell' = true ∧ Acc w' vz' ∧ Kept [c, fb] w w' := by
  obtain ⟨b0, b1, b2, b3, b4, b5, b6, b7, b8, b9, b10, b11, b12, b13, b14, b15, b16, b17, b18, b19, rfl⟩ := list20 hsl
  have HSS := hid hss
  have M := Mem.start w []
  have HCL := hid hCl
  have HMV := hid hMv
  have HSN := hid hSN
  have HS1 := hid hSt1
  have HMD := hid hmd
  have HCR := hid hcr
  have HC := hid hC
  have HST := hid hSt
  have dk3 : decide ((kd : Int) = 3) = false := by simp; omega
  have ek3 : decide (kd = 3) = false := by simp; omega
  have bk3 : ((kd : Int) == 3) = false := by rw [beq_eq_false_iff_ne]; omega
  have ck3 : ((kd : Int) != 3) = true := by rw [bne_iff_ne]; omega
  have dk7 : decide ((kd : Int) = 7) = false := by simp; omega
  have ek7 : decide (kd = 7) = false := by simp; omega
  have bk7 : ((kd : Int) == 7) = false := by rw [beq_eq_false_iff_ne]; omega
  have ck7 : ((kd : Int) != 7) = true := by rw [bne_iff_ne]; omega
  have hfl := lt_of_row hr
  have HNB := hid hnb
  have hfc : fb ∉ [c] := by
    obtain ⟨wz, c1, c2⟩ := hC
    exact row_ne c1 hr (by intro h; injection h with _ h _; exact absurd h (by decide))
  have hcl0 : c < w.heap.size := by
    obtain ⟨wz, c1, c2⟩ := hC
    exact lt_of_row c1
  clear hC hSt  hCl hcr hMv hkd hSN hSt1 hmd
  go_enter Salg.func98, Salg.ntmps98
  go_wp2_with ((with_reducible apply L_box M); rfl; clear M; intro t3 w1 ht3 M; simp only [Act.put, List.setIfInBounds_toArray, List.set_cons_zero, List.set_cons_succ])
  refine (HCL.out _ M.kept).mono ?_
  rintro e w2 ⟨a0, a1, a3, a6, rfl, y0, y1, y2, y3, K1⟩
  have X0 := hid y0
  have X1 := hid y1
  have X2 := hid y2
  have X3 := hid y3
  replace M := M.call K1
  clear K1 y0 y1 y2 y3 HCL
  have HONE := hid (wrow5_oneL X0.out X1.out X2.out X3.out)
  have hc3 : c ≠ t3 := by omega
  go_wp2_with (first
    | ((with_reducible apply W_stP (b := t3) (o := 52) (n := 8) (v := .agg (wrow5 a0 a1 a3 a6).toArray) (rs := (frG kd sb gv vv cu iu [b0, b1, b2, b3, b4, b5, b6, b7, b8, b9, b10, b11, b12, b13, b14, b15, b16, b17, b18, b19] (ad cl) (wrow5 a0 a1 a3 a6)).toArray)); rfl; rfl; exact M.r0; exact size113; rfl; exact HONE.out; exact Nat.le_of_ble_eq_true (by kernel_rfl); kernel_rfl; intro w3 K1 hr3; replace M := Mem.callPut (L1 := []) M (Or.inr ht3) K1 hr3; clear K1 hr3; simp only [List.nil_append] at M)
    | ((with_reducible apply W_loadCell); rfl; exact M.r0; exact (show (frG kd sb gv vv cu iu [b0, b1, b2, b3, b4, b5, b6, b7, b8, b9, b10, b11, b12, b13, b14, b15, b16, b17, b18, b19] (ad cl) (wrow5 a0 a1 a3 a6)).toArray[0]? = some (.int .u8 (kd : Int)) by kernel_rfl); exact Salg.underlying5; rfl; simp only [Act.put, List.setIfInBounds_toArray, List.set_cons_zero, List.set_cons_succ]))
  refine (HCR.out _).mono ?_
  rintro e w4 ⟨rfl, hw⟩
  replace hw := hw.symm
  subst hw
  have HKN := hid M.kept
  replace M : Mem w [c] _ _ := (M.into (o := (w3.heap[c]?).getD default) (by
    have := M.kept.size
    rw [Array.getElem?_eq_getElem (by omega)]
    rfl) (by simpa using hc3)).tail
  go_wp2_with fail
  refine S_region (by kernel_rfl) ?_
  replace HKN := hid (HKN.out.trans (Kept.refl [] _).drew)
  refine E_stage 0 6 [0, 1, 2, 3, 4, 5] (by kernel_rfl) M.drew ?_
  clear M
  simp only [List.filterMap_cons, List.filterMap_nil, List.getElem?_cons_zero, List.getElem?_cons_succ]
  ((with_reducible apply E_run); rfl; rfl; (intro w M; go_simp; (try go_ints); (try simp only [↓IntWalk.iteOmega]); (try with_reducible rfl)); simp only [Act.put, List.setIfInBounds_toArray, List.set_cons_zero, List.set_cons_succ])
  ((with_reducible apply E_run); rfl; rfl; (intro w M; go_simp; (try go_ints); (try simp only [↓IntWalk.iteOmega]); (try with_reducible rfl)); simp only [Act.put, List.setIfInBounds_toArray, List.set_cons_zero, List.set_cons_succ])
  ((with_reducible apply E_run); rfl; rfl; (intro w M; go_simp; (try go_ints); (try simp only [↓IntWalk.iteOmega]); (try with_reducible rfl)); simp only [Act.put, List.setIfInBounds_toArray, List.set_cons_zero, List.set_cons_succ])
  ((with_reducible apply E_run); rfl; rfl; (intro w M; go_simp; (try go_ints); (try simp only [↓IntWalk.iteOmega]); (try with_reducible rfl)); simp only [Act.put, List.setIfInBounds_toArray, List.set_cons_zero, List.set_cons_succ])
  ((with_reducible apply E_run (v := .agg ([b0, b1, b2, b3, b4, b5, b6, b7, b8, b9, b10, b11, b12, b13, b14, b15, b16, b17, b18, b19].map n8).toArray)); rfl; rfl; (intro w M; exact run_loadX (n := 20) M.r0 rfl Salg.underlying45 rfl size45 (Nat.le_of_ble_eq_true (by kernel_rfl)) (show (frG kd sb gv vv cu iu [b0, b1, b2, b3, b4, b5, b6, b7, b8, b9, b10, b11, b12, b13, b14, b15, b16, b17, b18, b19] (ad cl) (wrow5 a0 a1 a3 a6)).toArray.extract 12 (12 + 20) = _ by kernel_rfl)); simp only [Act.put, List.setIfInBounds_toArray, List.set_cons_zero, List.set_cons_succ])
  refine E_call rfl Salg.func87 (by kernel_rfl) (by kernel_rfl) (args := [.int .u64 1]) rfl ?_
  intro w4 K M
  replace HKN := hid (HKN.out.trans K)
  clear K
  refine (num_int _ 1 rfl (by decide) _).mono ?_
  rintro e w5 ⟨n1, rfl, hn1, K⟩
  replace M := M.call K
  replace HKN := hid (HKN.out.trans K)
  have HN1 := hid hn1
  refine ⟨_, rfl, trivial, M, ?_⟩
  clear K hn1
  simp only [Act.put, List.setIfInBounds_toArray, List.set_cons_zero, List.set_cons_succ]
  refine E_nil ?_
  intro w6 K M
  replace HKN := hid (HKN.out.trans K)
  replace HN1 := hid (HN1.out.kept K)
  clear K
  refine S_seg 6 7 (by kernel_rfl) (by decide) ?_
  simp only [List.take_succ_cons, List.take_zero, List.drop_zero, List.drop_succ_cons, Nat.sub_zero, Nat.reduceSub]
  go_wp2_with fail
  refine (HSN.out _ n1 HKN.out HN1.out).mono ?_
  rintro e w7 ⟨rr, vz1, rfl, ⟨wz, c1, c2⟩, xA, K⟩
  replace M := M.callX K (by simp) (by simpa using hc3)
  replace M := M.add c1 (by simpa using hc3)
  have HWZ := hid c2
  have HA1 := hid xA
  clear K c1 c2 xA HN1 HKN
  go_wp2_with fail
  refine S_done ?_
  go_wp2_with fail
  refine S_region (by kernel_rfl) ?_
  replace HWZ := hid (HWZ.out.kept (Kept.refl [] w7).drew)
  replace HA1 := hid (HS1.out.kept HA1.out (Kept.refl [] w7).drew)
  refine E_stage 0 9 [0, 1, 2, 3, 4, 5, 6, 7, 8] (by kernel_rfl) M.drew ?_
  clear M
  simp only [List.filterMap_cons, List.filterMap_nil, List.getElem?_cons_zero, List.getElem?_cons_succ]
  ((with_reducible apply E_run); rfl; rfl; (intro w M; go_simp; (try go_ints); (try simp only [↓IntWalk.iteOmega]); (try with_reducible rfl)); simp only [Act.put, List.setIfInBounds_toArray, List.set_cons_zero, List.set_cons_succ])
  ((with_reducible apply E_run); rfl; rfl; (intro w M; go_simp; (try go_ints); (try simp only [↓IntWalk.iteOmega]); (try with_reducible rfl)); simp only [Act.put, List.setIfInBounds_toArray, List.set_cons_zero, List.set_cons_succ])
  ((with_reducible apply E_run); rfl; rfl; (intro w M; go_simp; (try go_ints); (try simp only [↓IntWalk.iteOmega]); (try with_reducible rfl)); simp only [Act.put, List.setIfInBounds_toArray, List.set_cons_zero, List.set_cons_succ])
  ((with_reducible apply E_run); rfl; rfl; (intro w M; go_simp; (try go_ints); (try simp only [↓IntWalk.iteOmega]); (try with_reducible rfl)); simp only [Act.put, List.setIfInBounds_toArray, List.set_cons_zero, List.set_cons_succ])
  ((with_reducible apply E_run); rfl; rfl; (intro w M; go_simp; (try go_ints); (try simp only [↓IntWalk.iteOmega]); (try with_reducible rfl)); simp only [Act.put, List.setIfInBounds_toArray, List.set_cons_zero, List.set_cons_succ])
  ((with_reducible apply E_run); rfl; rfl; (intro w M; exact run_loadCell (M.r0) rfl (show (chN { E with vz := vz1 } wz (.slice (some ⟨fb, 0, none⟩) 1 cap) rt)[6]? = some E.md by kernel_rfl) Salg.underlying109 rfl); simp only [Act.put, List.setIfInBounds_toArray, List.set_cons_zero, List.set_cons_succ])
  ((with_reducible apply E_run); rfl; rfl; (intro w M; go_simp; (try go_ints); (try simp only [↓IntWalk.iteOmega]); (try with_reducible rfl)); simp only [Act.put, List.setIfInBounds_toArray, List.set_cons_zero, List.set_cons_succ])
  ((with_reducible apply E_run (v := .agg ([b0, b1, b2, b3, b4, b5, b6, b7, b8, b9, b10, b11, b12, b13, b14, b15, b16, b17, b18, b19].map n8).toArray)); rfl; rfl; (intro w M; exact run_loadX (n := 20) M.r1 rfl Salg.underlying45 rfl size45 (Nat.le_of_ble_eq_true (by kernel_rfl)) (show (frG kd sb gv vv cu iu [b0, b1, b2, b3, b4, b5, b6, b7, b8, b9, b10, b11, b12, b13, b14, b15, b16, b17, b18, b19] (ad cl) (wrow5 a0 a1 a3 a6)).toArray.extract 12 (12 + 20) = _ by kernel_rfl)); simp only [Act.put, List.setIfInBounds_toArray, List.set_cons_zero, List.set_cons_succ])
  refine E_call rfl Salg.func167 (by kernel_rfl) (by kernel_rfl) (args := [E.md, A8 [b0, b1, b2, b3, b4, b5, b6, b7, b8, b9, b10, b11, b12, b13, b14, b15, b16, b17, b18, b19]]) rfl ?_
  intro w4 K M
  replace HWZ := hid (HWZ.out.kept K)
  replace HA1 := hid (HS1.out.kept HA1.out K)
  clear K
  refine (withAddr_any E.md [] [b0, b1, b2, b3, b4, b5, b6, b7, b8, b9, b10, b11, b12, b13, b14, b15, b16, b17, b18, b19] _ (by rw [HMD.out]; exact AdsV.nil0 _) ⟨rfl, HSS.out⟩ (by decide)).mono ?_
  rintro e w5 ⟨md, rfl, hm1, K⟩
  replace M := M.call K
  replace HWZ := hid (HWZ.out.kept K)
  replace HA1 := hid (HS1.out.kept HA1.out K)
  have HM1 : Hid (md.oneCell' = true) := hm1.one
  refine ⟨_, rfl, trivial, M, ?_⟩
  clear K hm1
  simp only [Act.put, List.setIfInBounds_toArray, List.set_cons_zero, List.set_cons_succ]
  refine E_nil ?_
  intro w6 K M
  replace HWZ := hid (HWZ.out.kept K)
  replace HA1 := hid (HS1.out.kept HA1.out K)
  clear K
  refine S_seg 9 13 (by kernel_rfl) (by decide) ?_
  simp only [List.take_succ_cons, List.take_zero, List.drop_zero, List.drop_succ_cons, Nat.sub_zero, Nat.reduceSub]
  go_wp2_with ((with_reducible apply W_stV (b := c) (o := 6) (v := md)); rfl; rfl; exact HM1.out; exact M.r0; exact size109; exact Nat.le_of_ble_eq_true (by kernel_rfl); intro w8 K1 hr5)
  rw [show (chN { E with vz := vz1 } wz (.slice (some ⟨fb, 0, none⟩) 1 cap) rt).setIfInBounds 6 md = (chN { E with vz := vz1, md := md } wz (.slice (some ⟨fb, 0, none⟩) 1 cap) rt) from by kernel_rfl] at hr5
  replace HWZ := hid (HWZ.out.keptC K1 M.r0 (by decide))
  replace HA1 := hid (HS1.out.keptC HA1.out K1 M.r0 (chy_nb _ _ _ _) (.inl rfl))
  replace M := Mem.callPut (L1 := []) M (Or.inl (by simp)) K1 hr5
  clear K1 hr5
  simp only [List.nil_append] at M
  refine S_done ?_
  have HC1 : Hid (ChY w8 c { E with vz := vz1, md := md } (.slice (some ⟨fb, 0, none⟩) 1 cap) rt la) := ⟨wz, M.r0, HWZ.out⟩
  clear HWZ
  replace M := M.tail
  go_wp2_with (first
    | ((with_reducible apply W_loadCell); rfl; exact M.r0; exact (show (frG kd sb gv vv cu iu [b0, b1, b2, b3, b4, b5, b6, b7, b8, b9, b10, b11, b12, b13, b14, b15, b16, b17, b18, b19] (ad cl) (wrow5 a0 a1 a3 a6)).toArray[0]? = some (.int .u8 (kd : Int)) by kernel_rfl); exact Salg.underlying5; rfl; simp only [Act.put, List.setIfInBounds_toArray, List.set_cons_zero, List.set_cons_succ])
    | ((with_reducible apply W_loadCellG); rfl; rfl; exact M.r0; exact (show (frG kd sb gv vv cu iu [b0, b1, b2, b3, b4, b5, b6, b7, b8, b9, b10, b11, b12, b13, b14, b15, b16, b17, b18, b19] (ad cl) (wrow5 a0 a1 a3 a6)).toArray[0]? = some (.int .u8 (kd : Int)) by kernel_rfl); exact Salg.underlying5; rfl; simp only [Act.put, List.setIfInBounds_toArray, List.set_cons_zero, List.set_cons_succ]))
  refine S_region (by kernel_rfl) ?_
  replace HC1 := hid (HC1.out.kept (Kept.refl [] w8).drew)
  replace HA1 := hid (HS1.out.kept HA1.out (Kept.refl [] w8).drew)
  refine E_stage 0 10 [0, 1, 2, 3, 4, 5, 6, 7, 8, 9] (by kernel_rfl) M.drew ?_
  clear M
  simp only [List.filterMap_cons, List.filterMap_nil, List.getElem?_cons_zero, List.getElem?_cons_succ]
  ((with_reducible apply E_run); rfl; rfl; (intro w M; go_simp; (try go_ints); (try simp only [↓IntWalk.iteOmega]); (try with_reducible rfl)); simp only [Act.put, List.setIfInBounds_toArray, List.set_cons_zero, List.set_cons_succ])
  ((with_reducible apply E_run); rfl; rfl; (intro w M; go_simp; (try go_ints); (try simp only [↓IntWalk.iteOmega]); (try with_reducible rfl)); simp only [Act.put, List.setIfInBounds_toArray, List.set_cons_zero, List.set_cons_succ])
  ((with_reducible apply E_run); rfl; rfl; (intro w M; go_simp; (try go_ints); (try simp only [↓IntWalk.iteOmega]); (try with_reducible rfl)); simp only [Act.put, List.setIfInBounds_toArray, List.set_cons_zero, List.set_cons_succ])
  ((with_reducible apply E_run); rfl; rfl; (intro w M; go_simp; (try go_ints); (try simp only [↓IntWalk.iteOmega]); (try with_reducible rfl)); simp only [Act.put, List.setIfInBounds_toArray, List.set_cons_zero, List.set_cons_succ])
  ((with_reducible apply E_run (v := .agg ((ad cl).map n8).toArray)); rfl; rfl; (intro w M; exact run_loadX (n := 20) M.r0 rfl Salg.underlying45 rfl size45 (Nat.le_of_ble_eq_true (by kernel_rfl)) (show (frG kd sb gv vv cu iu [b0, b1, b2, b3, b4, b5, b6, b7, b8, b9, b10, b11, b12, b13, b14, b15, b16, b17, b18, b19] (ad cl) (wrow5 a0 a1 a3 a6)).toArray.extract 32 (32 + 20) = _ by kernel_rfl)); simp only [Act.put, List.setIfInBounds_toArray, List.set_cons_zero, List.set_cons_succ])
  ((with_reducible apply E_run); rfl; rfl; (intro w M; go_simp; (try go_ints); (try simp only [↓IntWalk.iteOmega]); (try with_reducible rfl)); simp only [Act.put, List.setIfInBounds_toArray, List.set_cons_zero, List.set_cons_succ])
  ((with_reducible apply E_run (v := .agg ([b0, b1, b2, b3, b4, b5, b6, b7, b8, b9, b10, b11, b12, b13, b14, b15, b16, b17, b18, b19].map n8).toArray)); rfl; rfl; (intro w M; exact run_loadX (n := 20) M.r0 rfl Salg.underlying45 rfl size45 (Nat.le_of_ble_eq_true (by kernel_rfl)) (show (frG kd sb gv vv cu iu [b0, b1, b2, b3, b4, b5, b6, b7, b8, b9, b10, b11, b12, b13, b14, b15, b16, b17, b18, b19] (ad cl) (wrow5 a0 a1 a3 a6)).toArray.extract 12 (12 + 20) = _ by kernel_rfl)); simp only [Act.put, List.setIfInBounds_toArray, List.set_cons_zero, List.set_cons_succ])
  ((with_reducible apply E_run); rfl; rfl; (intro w M; go_simp; (try go_ints); (try simp only [↓IntWalk.iteOmega]); (try with_reducible rfl)); simp only [Act.put, List.setIfInBounds_toArray, List.set_cons_zero, List.set_cons_succ])
  ((with_reducible apply E_run); rfl; rfl; (intro w M; exact run_loadCell (M.r0) rfl (show (frG kd sb gv vv cu iu [b0, b1, b2, b3, b4, b5, b6, b7, b8, b9, b10, b11, b12, b13, b14, b15, b16, b17, b18, b19] (ad cl) (wrow5 a0 a1 a3 a6)).toArray[5]? = some vv by kernel_rfl) Salg.underlying89 rfl); simp only [Act.put, List.setIfInBounds_toArray, List.set_cons_zero, List.set_cons_succ])
  refine E_call rfl Salg.func173 (by kernel_rfl) (by kernel_rfl) (args := [.pointer (some ⟨c, 0, none⟩), A8 (ad cl), A8 [b0, b1, b2, b3, b4, b5, b6, b7, b8, b9, b10, b11, b12, b13, b14, b15, b16, b17, b18, b19], vv]) rfl ?_
  intro w4 K M
  refine (HMV.out _ vz1 md M.kept (HC1.out.kept K) (HS1.out.kept HA1.out K)).mono ?_
  clear K
  rintro e w5 ⟨rr, vz, rfl, xC, xA, K⟩
  replace M := M.callX K (by simp) (by simpa using hc3)
  have HC2 := hid xC
  have HA2 := hid xA
  refine ⟨_, rfl, trivial, M, ?_⟩
  clear K xC xA
  simp only [Act.put, List.setIfInBounds_toArray, List.set_cons_zero, List.set_cons_succ]
  refine E_nil ?_
  intro w6 K M
  replace HC2 := hid (HC2.out.kept K)
  replace HA2 := hid (HST.out.kept HA2.out K)
  clear K HC HC1 HA1
  refine S_done ?_
  have H3 := hid M.r0
  obtain ⟨EE, hEE⟩ : ∃ EE : XEnv, EE = { E with vz := vz, md := md } := ⟨_, rfl⟩
  rw [← hEE] at HC2
  have HEE := hid hEE
  clear hEE
  obtain ⟨wz, c1, c2⟩ := HC2.out
  have h3c : t3 ∉ [c] := row_ne c1 H3.out (by intro h; injection h with _ h _; exact absurd h (by decide))
  have HO := hid (chy_nb EE wz (.slice (some ⟨fb, 0, none⟩) 1 cap) rt)
  have HO' := hid (chy_nb EE wz (.slice (some ⟨fb, 0, none⟩) 1 cap) nilS)
  have HC3 := hid c2
  have hcf : c ∉ [fb] := by
    intro h
    simp at h
    subst h
    simp at hfc
  have h3f : t3 ∉ [fb] := by
    simp
    omega
  have hrw := M.kept.row hr hfc
  have HK : Hid (Kept [c, fb] w w6) := M.kept.mono (by simp)
  clear c2 HC2 M hr
  go_wp2_with ((with_reducible apply W_stV (b := c) (o := 10) (v := nilS)); rfl; rfl; rfl; exact c1; exact size40; exact Nat.le_of_ble_eq_true (by kernel_rfl); intro w7 K1 hr5)
  rw [show (chN EE wz (.slice (some ⟨fb, 0, none⟩) 1 cap) rt).setIfInBounds 10 nilS = (chN EE wz (.slice (some ⟨fb, 0, none⟩) 1 cap) nilS) from by kernel_rfl] at hr5
  replace H3 := hid (K1.row H3.out h3c)
  replace hrw := K1.row hrw hfc
  replace HC3 := hid (HC3.out.keptC K1 c1 (by decide))
  replace HA2 := hid (HST.out.keptC HA2.out K1 c1 HO.out (.inl rfl))
  replace HK := hid (HK.out.trans (K1.mono (by simp)))
  clear c1 K1
  have M := Mem.start w7 [fb]
  have hcl5 := lt_of_row hr5
  have h3l := lt_of_row H3.out
  have hw5 := HK.out.size
  have hf5 := lt_of_row hrw
  have HOF := hid (own_frames (n := 1) hrw hsz hcap hc1)
  refine S_region (by kernel_rfl) ?_
  replace HOF := hid (own_kept HOF.out (Kept.refl [] _).drew)
  refine E_stage 0 8 [0, 1, 2, 3, 4, 5, 6, 7] (by kernel_rfl) M.drew ?_
  clear M
  simp only [List.filterMap_cons, List.filterMap_nil, List.getElem?_cons_zero, List.getElem?_cons_succ]
  ((with_reducible apply E_run); rfl; rfl; (intro w M; go_simp; (try go_ints); (try simp only [↓IntWalk.iteOmega]); (try with_reducible rfl)); simp only [Act.put, List.setIfInBounds_toArray, List.set_cons_zero, List.set_cons_succ])
  ((with_reducible apply E_run); rfl; rfl; (intro w M; go_simp; (try go_ints); (try simp only [↓IntWalk.iteOmega]); (try with_reducible rfl)); simp only [Act.put, List.setIfInBounds_toArray, List.set_cons_zero, List.set_cons_succ])
  ((with_reducible apply E_run); rfl; rfl; (intro w M; go_simp; (try go_ints); (try simp only [↓IntWalk.iteOmega]); (try with_reducible rfl)); simp only [Act.put, List.setIfInBounds_toArray, List.set_cons_zero, List.set_cons_succ])
  ((with_reducible apply E_run); rfl; rfl; (intro w M; go_simp; (try go_ints); (try simp only [↓IntWalk.iteOmega]); (try with_reducible rfl)); simp only [Act.put, List.setIfInBounds_toArray, List.set_cons_zero, List.set_cons_succ])
  ((with_reducible apply E_run); rfl; rfl; (intro w M; exact run_loadCell (M.kept.row hr5 hcf) rfl (show (chN EE wz (.slice (some ⟨fb, 0, none⟩) 1 cap) nilS)[9]? = some (.slice (some ⟨fb, 0, none⟩) 1 cap) by kernel_rfl) Salg.underlying115 rfl); simp only [Act.put, List.setIfInBounds_toArray, List.set_cons_zero, List.set_cons_succ])
  ((with_reducible apply E_run); rfl; rfl; (intro w M; exact run_loadAll (M.kept.row H3.out h3f) rfl Salg.underlying142 rfl (by kernel_rfl)); simp only [Act.put, List.setIfInBounds_toArray, List.set_cons_zero, List.set_cons_succ])
  refine E_buildIt (vs := (frG kd sb gv vv cu iu [b0, b1, b2, b3, b4, b5, b6, b7, b8, b9, b10, b11, b12, b13, b14, b15, b16, b17, b18, b19] (ad cl) (wrow5 a0 a1 a3 a6)).toArray) (s := 60) rfl rfl Salg.underlying115 size142 zero142s rfl (by decide) (by decide) ?_
  intro bn wa wb K1 hbn hbn2 K2 M
  replace HOF := hid (own_kept (own_kept HOF.out K1) K2)
  have hbw2 := M.kept.size
  clear K1 K2
  simp only [Act.put, List.setIfInBounds_toArray, List.set_cons_zero, List.set_cons_succ]
  refine E_appendY (base := 0) (n := 1) (m := 1) (s := 60) (bn := bn) (so := 0) (xs := fs.toList.take (1 * 60)) (news := (frG kd sb gv vv cu iu [b0, b1, b2, b3, b4, b5, b6, b7, b8, b9, b10, b11, b12, b13, b14, b15, b16, b17, b18, b19] (ad cl) (wrow5 a0 a1 a3 a6))) (cs := (frG kd sb gv vv cu iu [b0, b1, b2, b3, b4, b5, b6, b7, b8, b9, b10, b11, b12, b13, b14, b15, b16, b17, b18, b19] (ad cl) (wrow5 a0 a1 a3 a6)).toArray) info142 Salg.underlying115 rfl (by decide) (by decide) rfl rfl HOF.out (by decide) M.r0 rfl (cells_news _) (frG_oneL g1 g2 g3 g4 X0.out X1.out X2.out X3.out) (Nat.zero_le _) (by intro q hq; cases hq; exact Or.inl (List.mem_singleton.2 rfl)) (by intro p hp; cases hp) ?_
  clear M
  intro VV wc wd K1 M xO K2 xN
  have HOW := hid xO
  have HNEW : Hid (∀ b, VV.ownBlock = some b → b = fb ∨ w.heap.size ≤ b) := fun b hb => (xN b hb).imp (fun h => (Option.some.inj h).symm) (fun h => Nat.le_trans hw5 (Nat.le_trans hbw2 h))
  clear xO K1 K2 HOF xN
  simp only [Act.put, List.setIfInBounds_toArray, List.set_cons_zero, List.set_cons_succ]
  refine E_nil ?_
  intro w8 K1 M
  replace HOW := hid (own_kept HOW.out K1)
  clear K1
  refine S_seg 8 11 (by kernel_rfl) (by decide) ?_
  simp only [List.take_succ_cons, List.take_zero, List.drop_zero, List.drop_succ_cons, Nat.sub_zero, Nat.reduceSub]
  obtain ⟨fb', cap', cur, rfl, z2, z3, z4, z5, z6, z7⟩ := own_more HOW.out (by rw [List.length_take, Array.length_toList, hsz]; omega) (by rfl)
  have hnew := HNEW.out fb' rfl
  have K2' : Kept [fb] w7 w8 := M.kept
  have hcw := K2'.row hr5 hcf
  have HC2' := hid (HC3.out.keptC K2' hrw (by decide))
  replace HA2 := hid (HST.out.keptC HA2.out K2' hrw HNB.out (.inr rfl))
  replace HK := hid (HK.out.trans (K2'.mono (by simp)))
  have HZ3 := hid z3
  have HZ4 := hid z4
  have hf2 : fb' ∉ [c] := row_ne hcw z2 (by intro h; injection h with _ h _; exact absurd h (by decide))
  clear HOW K2' M HC3 z3 z4 HNEW
  go_wp2_with ((with_reducible apply W_stV (b := c) (o := 9) (v := .slice (some ⟨fb', 0, none⟩) 2 cap')); rfl; rfl; rfl; exact hcw; exact size115; exact Nat.le_of_ble_eq_true (by kernel_rfl); intro w9 K3 hr9)
  refine S_done ?_
  rw [show (chN EE wz (.slice (some ⟨fb, 0, none⟩) 1 cap) nilS).setIfInBounds 9 (.slice (some ⟨fb', 0, none⟩) 2 cap') = (chN EE wz (.slice (some ⟨fb', 0, none⟩) 2 cap') nilS) from by kernel_rfl] at hr9
  have HF : Hid (ChY w9 c EE (.slice (some ⟨fb', 0, none⟩) 2 cap') nilS la) := ⟨wz, hr9, HC2'.out.keptC K3 hcw (by decide)⟩
  replace HA2 := hid (HST.out.keptC HA2.out K3 hcw HO'.out (.inl rfl))
  have HK9 := hid (HK.out.trans (K3.mono (by simp)))
  have HZ2 := hid (K3.row z2 hf2)
  clear K3 hr9 hcw z2
  go_wp2_with fail
  go_end0
  rw [HEE.out] at HF
  refine ⟨_, fb', cap', cur, a0, a1, a3, a6, vz, md, rfl, HM1.out, HF.out, HZ2.out, hnew, fun k hk => ?_, HZ4.out, z5, z6, z7, X0.out, X1.out, X2.out, X3.out, HA2.out, HK9.out⟩
  rw [HZ3.out k (by omega), List.getElem?_take_of_lt (by omega)]
  simp
end Go.Proofs.YgcsalGreat

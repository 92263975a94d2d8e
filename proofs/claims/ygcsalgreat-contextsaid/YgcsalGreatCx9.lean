/-
  The walk of (*yp.State).enter in a run of Context, the clone and the move of value given.
-/
import Derived.Test.YgcsalGreatCx8
import Derived.Test.YgcsalGreatCp19
set_option linter.unusedSimpArgs false
set_option linter.unusedVariables false
namespace Go.Own
open Go.Proofs.YgcsalGreat
theorem Mem.callX {w0 w w' : World} {X : List Nat} {L : List (Nat × Obj)} {c : Nat} (M : Mem w0 X L w) (K : Kept [c] w w') (hc : c ∈ X) (hn : ∀ p ∈ L, c ≠ p.1) : Mem w0 X L w' :=
  ⟨M.kept.trans (K.mono (fun x hx => by simp only [List.mem_singleton] at hx; subst hx; exact hc)), fun p hp => K.row (M.rows p hp) (by simp only [List.mem_singleton]; exact fun e => hn p hp e.symm), M.apart⟩
/-- A frame's cells as it is entered. -/
def frG (kd : Nat) (sb : Bool) (gv vv cu iu : Value) (sf cl : List Nat) (sv : List Value) : List Value := [.int .u8 (kd : Int), .int .u8 0, .bool sb, nilS, gv, vv, nilS, nilS, nilS, nilS, cu, iu] ++ (sf.map n8 ++ (cl.map n8 ++ sv))
theorem frG_one {kd s t : Nat} {sb : Bool} {gv vv cu iu a0 a1 a3 a6 : Value} (h1 : gv.oneCell' = true) (h2 : vv.oneCell' = true) (h3 : cu.oneCell' = true) (h4 : iu.oneCell' = true) (h5 : a0.oneCell' = true) (h6 : a1.oneCell' = true) (h8 : a3.oneCell' = true) (h7 : a6.oneCell' = true) : ∀ u ∈ frG kd sb gv vv cu iu (ad s) (ad t) (wrow5 a0 a1 a3 a6), u.oneCell' = true := by
  apply one_list
  have e : ((frG kd sb gv vv cu iu (ad s) (ad t) (wrow5 a0 a1 a3 a6)).all fun u => u.oneCell') = (gv.oneCell' && (vv.oneCell' && (cu.oneCell' && (iu.oneCell' && (a0.oneCell' && (a1.oneCell' && (a3.oneCell' && (a6.oneCell' && true)))))))) := by kernel_rfl
  rw [e, h1, h2, h3, h4, h5, h6, h8, h7]
  rfl
theorem own_frames {w : World} {fb cap n : Nat} {cur : Array Value} (h : w.heap[fb]? = some (.cells cur 142 (0, 0))) (hs : cur.size = cap * 60) (hc : cap ≤ maxLen) (h1 : n ≤ cap) : w.ownsRow 0 142 60 (.slice (some ⟨fb, 0, none⟩) n cap) n (cur.toList.take (n * 60)) :=
  ⟨by rw [List.length_take, Array.length_toList, hs]; exact Nat.min_eq_left (Nat.mul_le_mul_right _ h1), .inr ⟨fb, cap, cur, rfl, Nat.zero_le _, h, h1, hc, hs, rfl⟩⟩
theorem own_more {w : World} {n : Nat} {v : Value} {xs ys : List Value} (h : w.ownsRow 0 142 60 v (n + 1) (xs ++ ys)) (hx : xs.length = n * 60) (hy : ys.length = 60) : ∃ g cap cur, v = .slice (some ⟨g, 0, none⟩) (n + 1) cap ∧ w.heap[g]? = some (.cells cur 142 (0, 0)) ∧ (∀ k, k < n * 60 → cur[k]? = xs[k]?) ∧ (∀ k, k < 60 → cur[n * 60 + k]? = ys[k]?) ∧ cur.size = cap * 60 ∧ cap ≤ maxLen ∧ n + 1 ≤ cap := by
  rcases h.2 with ⟨_, h1⟩ | ⟨g, cap, cur, h1, h2, h3, h4, h5, h6, h7⟩
  · omega
  · refine ⟨g, cap, cur, h1, h3, fun k hk => ?_, fun k hk => ?_, h6, h5, h4⟩
    · have e : (cur.toList.take ((n + 1) * 60))[k]? = (xs ++ ys)[k]? := by rw [h7]
      rw [List.getElem?_take_of_lt (by omega), List.getElem?_append_left (by omega)] at e
      simpa using e
    · have e : (cur.toList.take ((n + 1) * 60))[n * 60 + k]? = (xs ++ ys)[n * 60 + k]? := by rw [h7]
      rw [List.getElem?_take_of_lt (by omega), List.getElem?_append_right (by omega), hx, Nat.add_sub_cancel_left] at e
      simpa using e
/-- What holds of the accounts lies still while only chain and frames are written. -/
def Still (Acc : World → Value → Prop) : Prop := ∀ (X : List Nat) (w w' : World) (v : Value), Acc w v → Kept X w w' → Hard X w → Acc w' v
theorem Still.kept {Acc : World → Value → Prop} (h : Still Acc) {w w' : World} {v : Value} (ha : Acc w v) (k : Kept [] w w') : Acc w' v := h [] w w' v ha k (fun x hx => by cases hx)
theorem Still.keptC {Acc : World → Value → Prop} (h : Still Acc) {w w' : World} {v : Value} {b tc : Nat} {cs : Array Value} (ha : Acc w v) (k : Kept [b] w w') (hr : w.heap[b]? = some (.cells cs tc (0, 0))) (ho : ∀ t l, Obj.cells cs tc (0, 0) ≠ R8 t l) (ht : tc = 119 ∨ tc = 142) : Acc w' v := h [b] w w' v ha k (fun x hx => by
  simp only [List.mem_singleton] at hx
  subst hx
  exact ⟨cs, tc, hr, ht, ho⟩)
end Go.Own
namespace Go.Proofs.YgcsalGreat
open Go.RowKit Go.Own
theorem creates_four (w : World) : Calls Salg.prog 172 #[.int .u8 4] w fun e w' => e = .returned (.bool false) ∧ w' = w := by
  go_enter Salg.func172, Salg.ntmps172
  go_wp2_with fail
  go_ret
  exact ⟨rfl, rfl⟩

set_option maxHeartbeats 4000000 in
set_option maxRecDepth 100000 in
theorem enterY0 (c fb cap kd sf cl : Nat) (sb : Bool) (fs : Array Value) (la : List (List Nat)) (E : XEnv) (rt gv vv cu iu : Value) (Acc : World → Value → Prop) (w : World) (hC : ChY w c E (nilS) rt la) (hSt : Still Acc) (g1 : gv.oneCell' = true) (g2 : vv.oneCell' = true) (g3 : cu.oneCell' = true) (g4 : iu.oneCell' = true) (hkd : kd ≠ 3 ∧ kd ≠ 7) (hcr : ∀ w, Calls Salg.prog 172 #[.int .u8 (kd : Int)] w fun e w' => e = .returned (.bool false) ∧ w' = w)
    (hCl : ∀ w', Kept [] w w' → Calls Salg.prog 171 #[.pointer (some ⟨c, 0, none⟩)] w' fun e w'' => ∃ a0 a1 a3 a6 : Value, e = .returned (.agg (wrow5 a0 a1 a3 a6).toArray) ∧ a0.oneCell' = true ∧ a1.oneCell' = true ∧ a3.oneCell' = true ∧ a6.oneCell' = true ∧ Kept [] w' w'')
    (hMv : ∀ w', Kept [] w w' → Calls Salg.prog 173 #[.pointer (some ⟨c, 0, none⟩), A8 (ad cl), A8 (ad sf), vv] w' fun e w'' => ∃ (r vz' : Value), e = .returned r ∧ ChY w'' c { E with vz := vz' } (nilS) rt la ∧ Acc w'' vz' ∧ Kept [c] w' w'') :
    Calls Salg.prog 98 #[.pointer (some ⟨c, 0, none⟩), .agg (frG kd sb gv vv cu iu (ad sf) (ad cl) (wrow5 nilS nilS nilS nilS)).toArray] w fun e w' => ∃ (r : Value) (fb' cap' : Nat) (cur : Array Value) (a0 a1 a3 a6 vz' : Value), e = .returned r ∧ ChY w' c { E with vz := vz' } (.slice (some ⟨fb', 0, none⟩) 1 cap') nilS la ∧ w'.heap[fb']? = some (.cells cur 142 (0, 0)) ∧ w.heap.size ≤ fb' ∧ (∀ k, k < 60 → cur[0 + k]? = (frG kd sb gv vv cu iu (ad sf) (ad cl) (wrow5 a0 a1 a3 a6))[k]?) ∧ cur.size = cap' * 60 ∧ cap' ≤ maxLen ∧ 1 ≤ cap' ∧ a0.oneCell' = true ∧ a1.oneCell' = true ∧ a3.oneCell' = true ∧ a6.oneCell' = true ∧ Acc w' vz' ∧ Kept [c] w w' := by
  have M := Mem.start w []
  have HCL := hid hCl
  have HMV := hid hMv
  have HCR := hid hcr
  have HC := hid hC
  have HST := hid hSt
  have dk3 : decide ((kd : Int) = 3) = false := by simp; omega
  have ek3 : decide (kd = 3) = false := by simp; omega
  have bk3 : ((kd : Int) == 3) = false := by rw [beq_eq_false_iff_ne]; omega
  have ck3 : ((kd : Int) != 3) = true := by rw [bne_iff_ne]; omega
  have dk7 : decide ((kd : Int) = 7) = false := by simp; omega
  have ek7 : decide (kd = 7) = false := by simp; omega
  have bk7 : ((kd : Int) == 7) = false := by rw [beq_eq_false_iff_ne]; omega
  have ck7 : ((kd : Int) != 7) = true := by rw [bne_iff_ne]; omega
  have hcl0 : c < w.heap.size := by
    obtain ⟨wz, c1, c2⟩ := hC
    exact lt_of_row c1
  clear hC hSt  hCl hcr hMv hkd
  go_enter Salg.func98, Salg.ntmps98
  go_wp2_with ((with_reducible apply L_box M); rfl; clear M; intro t3 w1 ht3 M; simp only [Act.put, List.setIfInBounds_toArray, List.set_cons_zero, List.set_cons_succ])
  refine (HCL.out _ M.kept).mono ?_
  rintro e w2 ⟨a0, a1, a3, a6, rfl, y0, y1, y2, y3, K1⟩
  have X0 := hid y0
  have X1 := hid y1
  have X2 := hid y2
  have X3 := hid y3
  replace M := M.call K1
  clear K1 y0 y1 y2 y3 HCL
  have HONE := hid (wrow5_oneL X0.out X1.out X2.out X3.out)
  have hc3 : c ≠ t3 := by omega
  go_wp2_with (first
    | ((with_reducible apply W_stP (b := t3) (o := 52) (n := 8) (v := .agg (wrow5 a0 a1 a3 a6).toArray) (rs := (frG kd sb gv vv cu iu (ad sf) (ad cl) (wrow5 a0 a1 a3 a6)).toArray)); rfl; rfl; exact M.r0; exact size113; rfl; exact HONE.out; exact Nat.le_of_ble_eq_true (by kernel_rfl); kernel_rfl; intro w3 K1 hr3; replace M := Mem.callPut (L1 := []) M (Or.inr ht3) K1 hr3; clear K1 hr3; simp only [List.nil_append] at M)
    | ((with_reducible apply W_loadCell); rfl; exact M.r0; exact (show (frG kd sb gv vv cu iu (ad sf) (ad cl) (wrow5 a0 a1 a3 a6)).toArray[0]? = some (.int .u8 (kd : Int)) by kernel_rfl); exact Salg.underlying5; rfl; simp only [Act.put, List.setIfInBounds_toArray, List.set_cons_zero, List.set_cons_succ]))
  refine (HCR.out _).mono ?_
  rintro e w4 ⟨rfl, hw⟩
  replace hw := hw.symm
  subst hw
  go_wp2_with (first
    | ((with_reducible apply W_loadCell); rfl; exact M.r0; exact (show (frG kd sb gv vv cu iu (ad sf) (ad cl) (wrow5 a0 a1 a3 a6)).toArray[0]? = some (.int .u8 (kd : Int)) by kernel_rfl); exact Salg.underlying5; rfl; simp only [Act.put, List.setIfInBounds_toArray, List.set_cons_zero, List.set_cons_succ])
    | ((with_reducible apply W_loadCellG); rfl; rfl; exact M.r0; exact (show (frG kd sb gv vv cu iu (ad sf) (ad cl) (wrow5 a0 a1 a3 a6)).toArray[0]? = some (.int .u8 (kd : Int)) by kernel_rfl); exact Salg.underlying5; rfl; simp only [Act.put, List.setIfInBounds_toArray, List.set_cons_zero, List.set_cons_succ]))
  refine S_region (by kernel_rfl) ?_
  have M1 : Mem w [c] _ _ := (M.into (o := (w3.heap[c]?).getD default) (by
    have := M.kept.size
    rw [Array.getElem?_eq_getElem (by omega)]
    rfl) (by simpa using hc3)).tail
  refine E_stage 0 10 [0, 1, 2, 3, 4, 5, 6, 7, 8, 9] (by kernel_rfl) M1.drew ?_
  have HMK := hid M.kept
  clear M M1
  simp only [List.filterMap_cons, List.filterMap_nil, List.getElem?_cons_zero, List.getElem?_cons_succ]
  ((with_reducible apply E_run); rfl; rfl; (intro w M; go_simp; (try go_ints); (try simp only [↓IntWalk.iteOmega]); (try with_reducible rfl)); simp only [Act.put, List.setIfInBounds_toArray, List.set_cons_zero, List.set_cons_succ])
  ((with_reducible apply E_run); rfl; rfl; (intro w M; go_simp; (try go_ints); (try simp only [↓IntWalk.iteOmega]); (try with_reducible rfl)); simp only [Act.put, List.setIfInBounds_toArray, List.set_cons_zero, List.set_cons_succ])
  ((with_reducible apply E_run); rfl; rfl; (intro w M; go_simp; (try go_ints); (try simp only [↓IntWalk.iteOmega]); (try with_reducible rfl)); simp only [Act.put, List.setIfInBounds_toArray, List.set_cons_zero, List.set_cons_succ])
  ((with_reducible apply E_run); rfl; rfl; (intro w M; go_simp; (try go_ints); (try simp only [↓IntWalk.iteOmega]); (try with_reducible rfl)); simp only [Act.put, List.setIfInBounds_toArray, List.set_cons_zero, List.set_cons_succ])
  ((with_reducible apply E_run (v := .agg ((ad cl).map n8).toArray)); rfl; rfl; (intro w M; exact run_loadX (n := 20) M.r0 rfl Salg.underlying45 rfl size45 (Nat.le_of_ble_eq_true (by kernel_rfl)) (show (frG kd sb gv vv cu iu (ad sf) (ad cl) (wrow5 a0 a1 a3 a6)).toArray.extract 32 (32 + 20) = _ by kernel_rfl)); simp only [Act.put, List.setIfInBounds_toArray, List.set_cons_zero, List.set_cons_succ])
  ((with_reducible apply E_run); rfl; rfl; (intro w M; go_simp; (try go_ints); (try simp only [↓IntWalk.iteOmega]); (try with_reducible rfl)); simp only [Act.put, List.setIfInBounds_toArray, List.set_cons_zero, List.set_cons_succ])
  ((with_reducible apply E_run (v := .agg ((ad sf).map n8).toArray)); rfl; rfl; (intro w M; exact run_loadX (n := 20) M.r0 rfl Salg.underlying45 rfl size45 (Nat.le_of_ble_eq_true (by kernel_rfl)) (show (frG kd sb gv vv cu iu (ad sf) (ad cl) (wrow5 a0 a1 a3 a6)).toArray.extract 12 (12 + 20) = _ by kernel_rfl)); simp only [Act.put, List.setIfInBounds_toArray, List.set_cons_zero, List.set_cons_succ])
  ((with_reducible apply E_run); rfl; rfl; (intro w M; go_simp; (try go_ints); (try simp only [↓IntWalk.iteOmega]); (try with_reducible rfl)); simp only [Act.put, List.setIfInBounds_toArray, List.set_cons_zero, List.set_cons_succ])
  ((with_reducible apply E_run); rfl; rfl; (intro w M; exact run_loadCell (M.r0) rfl (show (frG kd sb gv vv cu iu (ad sf) (ad cl) (wrow5 a0 a1 a3 a6)).toArray[5]? = some vv by kernel_rfl) Salg.underlying89 rfl); simp only [Act.put, List.setIfInBounds_toArray, List.set_cons_zero, List.set_cons_succ])
  refine E_call rfl Salg.func173 (by kernel_rfl) (by kernel_rfl) (args := [.pointer (some ⟨c, 0, none⟩), A8 (ad cl), A8 (ad sf), vv]) rfl ?_
  intro w4 K M
  refine (HMV.out _ (HMK.out.trans ((Kept.refl [] _).drew.trans K))).mono ?_
  clear K
  rintro e w5 ⟨rr, vz, rfl, xC, xA, K⟩
  replace M := M.callX K (by simp) (by simpa using hc3)
  have HC2 := hid xC
  have HA2 := hid xA
  refine ⟨_, rfl, trivial, M, ?_⟩
  clear K xC xA
  simp only [Act.put, List.setIfInBounds_toArray, List.set_cons_zero, List.set_cons_succ]
  refine E_nil ?_
  intro w6 K M
  replace HC2 := hid (HC2.out.kept K)
  replace HA2 := hid (HST.out.kept HA2.out K)
  clear K HC
  refine S_done ?_
  have H3 := hid M.r0
  obtain ⟨EE, hEE⟩ : ∃ EE : XEnv, EE = { E with vz := vz } := ⟨_, rfl⟩
  rw [← hEE] at HC2
  have HEE := hid hEE
  clear hEE
  obtain ⟨wz, c1, c2⟩ := HC2.out
  have h3c : t3 ∉ [c] := row_ne c1 H3.out (by intro h; injection h with _ h _; exact absurd h (by decide))
  have HO := hid (chy_nb EE wz (nilS) rt)
  have HO' := hid (chy_nb EE wz (nilS) nilS)
  have HC3 := hid c2
  have HK : Hid (Kept [c] w w6) := M.kept.mono (by simp)
  clear c2 HC2 M 
  go_wp2_with ((with_reducible apply W_stV (b := c) (o := 10) (v := nilS)); rfl; rfl; rfl; exact c1; exact size40; exact Nat.le_of_ble_eq_true (by kernel_rfl); intro w7 K1 hr5)
  rw [show (chN EE wz (nilS) rt).setIfInBounds 10 nilS = (chN EE wz (nilS) nilS) from by kernel_rfl] at hr5
  replace H3 := hid (K1.row H3.out h3c)
  skip
  replace HC3 := hid (HC3.out.keptC K1 c1 (by decide))
  replace HA2 := hid (HST.out.keptC HA2.out K1 c1 HO.out (.inl rfl))
  replace HK := hid (HK.out.trans (K1.mono (by simp)))
  clear c1 K1
  have M := Mem.start w7 []
  have hcl5 := lt_of_row hr5
  have h3l := lt_of_row H3.out
  have hw5 := HK.out.size
  have HOF := hid (own_nil w7 0 142 60)
  refine S_region (by kernel_rfl) ?_
  replace HOF := hid (own_kept HOF.out (Kept.refl [] _).drew)
  refine E_stage 0 8 [0, 1, 2, 3, 4, 5, 6, 7] (by kernel_rfl) M.drew ?_
  clear M
  simp only [List.filterMap_cons, List.filterMap_nil, List.getElem?_cons_zero, List.getElem?_cons_succ]
  ((with_reducible apply E_run); rfl; rfl; (intro w M; go_simp; (try go_ints); (try simp only [↓IntWalk.iteOmega]); (try with_reducible rfl)); simp only [Act.put, List.setIfInBounds_toArray, List.set_cons_zero, List.set_cons_succ])
  ((with_reducible apply E_run); rfl; rfl; (intro w M; go_simp; (try go_ints); (try simp only [↓IntWalk.iteOmega]); (try with_reducible rfl)); simp only [Act.put, List.setIfInBounds_toArray, List.set_cons_zero, List.set_cons_succ])
  ((with_reducible apply E_run); rfl; rfl; (intro w M; go_simp; (try go_ints); (try simp only [↓IntWalk.iteOmega]); (try with_reducible rfl)); simp only [Act.put, List.setIfInBounds_toArray, List.set_cons_zero, List.set_cons_succ])
  ((with_reducible apply E_run); rfl; rfl; (intro w M; go_simp; (try go_ints); (try simp only [↓IntWalk.iteOmega]); (try with_reducible rfl)); simp only [Act.put, List.setIfInBounds_toArray, List.set_cons_zero, List.set_cons_succ])
  ((with_reducible apply E_run); rfl; rfl; (intro w M; exact run_loadCell (M.kept.row hr5 (by simp)) rfl (show (chN EE wz (nilS) nilS)[9]? = some (nilS) by kernel_rfl) Salg.underlying115 rfl); simp only [Act.put, List.setIfInBounds_toArray, List.set_cons_zero, List.set_cons_succ])
  ((with_reducible apply E_run); rfl; rfl; (intro w M; exact run_loadAll (M.kept.row H3.out (by simp)) rfl Salg.underlying142 rfl (by kernel_rfl)); simp only [Act.put, List.setIfInBounds_toArray, List.set_cons_zero, List.set_cons_succ])
  refine E_buildIt (vs := (frG kd sb gv vv cu iu (ad sf) (ad cl) (wrow5 a0 a1 a3 a6)).toArray) (s := 60) rfl rfl Salg.underlying115 size142 zero142s rfl (by decide) (by decide) ?_
  intro bn wa wb K1 hbn hbn2 K2 M
  replace HOF := hid (own_kept (own_kept HOF.out K1) K2)
  have hbw2 := M.kept.size
  clear K1 K2
  simp only [Act.put, List.setIfInBounds_toArray, List.set_cons_zero, List.set_cons_succ]
  refine E_appendY (base := 0) (n := 0) (m := 1) (s := 60) (bn := bn) (so := 0) (xs := []) (news := (frG kd sb gv vv cu iu (ad sf) (ad cl) (wrow5 a0 a1 a3 a6))) (cs := (frG kd sb gv vv cu iu (ad sf) (ad cl) (wrow5 a0 a1 a3 a6)).toArray) info142 Salg.underlying115 rfl (by decide) (by decide) rfl rfl HOF.out (by decide) M.r0 rfl (cells_news _) (frG_one g1 g2 g3 g4 X0.out X1.out X2.out X3.out) (Nat.zero_le _) (by intro q hq; cases hq) (by intro p hp; cases hp) ?_
  clear M
  intro VV wc wd K1 M xO K2 xN
  have HOW := hid xO
  have HNEW : Hid (∀ b, VV.ownBlock = some b → w.heap.size ≤ b) := fun b hb => (xN b hb).elim (fun h => by cases h) (fun h => Nat.le_trans hw5 (Nat.le_trans hbw2 h))
  clear xO K1 K2 HOF xN
  simp only [Act.put, List.setIfInBounds_toArray, List.set_cons_zero, List.set_cons_succ]
  refine E_nil ?_
  intro w8 K1 M
  replace HOW := hid (own_kept HOW.out K1)
  clear K1
  refine S_seg 8 11 (by kernel_rfl) (by decide) ?_
  simp only [List.take_succ_cons, List.take_zero, List.drop_zero, List.drop_succ_cons, Nat.sub_zero, Nat.reduceSub]
  obtain ⟨fb', cap', cur, rfl, z2, z3, z4, z5, z6, z7⟩ := own_more HOW.out rfl (by rfl)
  have hnew := HNEW.out fb' rfl
  have K2' : Kept [] w7 w8 := M.kept
  have hcw := K2'.row hr5 (by simp)
  have HC2' := hid (HC3.out.kept K2')
  replace HA2 := hid (HST.out.kept HA2.out K2')
  replace HK := hid (HK.out.trans (K2'.mono (by simp)))
  have HZ3 := hid z3
  have HZ4 := hid z4
  have hf2 : fb' ∉ [c] := row_ne hcw z2 (by intro h; injection h with _ h _; exact absurd h (by decide))
  clear HOW K2' M HC3 z3 z4 HNEW
  go_wp2_with ((with_reducible apply W_stV (b := c) (o := 9) (v := .slice (some ⟨fb', 0, none⟩) 1 cap')); rfl; rfl; rfl; exact hcw; exact size115; exact Nat.le_of_ble_eq_true (by kernel_rfl); intro w9 K3 hr9)
  refine S_done ?_
  rw [show (chN EE wz (nilS) nilS).setIfInBounds 9 (.slice (some ⟨fb', 0, none⟩) 1 cap') = (chN EE wz (.slice (some ⟨fb', 0, none⟩) 1 cap') nilS) from by kernel_rfl] at hr9
  have HF : Hid (ChY w9 c EE (.slice (some ⟨fb', 0, none⟩) 1 cap') nilS la) := ⟨wz, hr9, HC2'.out.keptC K3 hcw (by decide)⟩
  replace HA2 := hid (HST.out.keptC HA2.out K3 hcw HO'.out (.inl rfl))
  have HK9 := hid (HK.out.trans (K3.mono (by simp)))
  have HZ2 := hid (K3.row z2 hf2)
  clear K3 hr9 hcw z2
  go_wp2_with fail
  go_end0
  rw [HEE.out] at HF
  refine ⟨_, fb', cap', cur, a0, a1, a3, a6, vz, rfl, HF.out, HZ2.out, hnew, HZ4.out, z5, z6, z7, X0.out, X1.out, X2.out, X3.out, HA2.out, HK9.out⟩

set_option maxHeartbeats 4000000 in
set_option maxRecDepth 100000 in
theorem enterY1 (c fb cap kd sf cl : Nat) (sb : Bool) (fs : Array Value) (la : List (List Nat)) (E : XEnv) (rt gv vv cu iu : Value) (Acc : World → Value → Prop) (w : World) (hC : ChY w c E (.slice (some ⟨fb, 0, none⟩) 1 cap) rt la) (hSt : Still Acc) (hr : w.heap[fb]? = some (.cells fs 142 (0, 0))) (hnb : ∀ t l, Obj.cells fs 142 (0, 0) ≠ R8 t l) (hsz : fs.size = cap * 60) (hcap : cap ≤ maxLen) (hc1 : 1 ≤ cap) (g1 : gv.oneCell' = true) (g2 : vv.oneCell' = true) (g3 : cu.oneCell' = true) (g4 : iu.oneCell' = true) (hkd : kd ≠ 3 ∧ kd ≠ 7) (hcr : ∀ w, Calls Salg.prog 172 #[.int .u8 (kd : Int)] w fun e w' => e = .returned (.bool false) ∧ w' = w)
    (hCl : ∀ w', Kept [] w w' → Calls Salg.prog 171 #[.pointer (some ⟨c, 0, none⟩)] w' fun e w'' => ∃ a0 a1 a3 a6 : Value, e = .returned (.agg (wrow5 a0 a1 a3 a6).toArray) ∧ a0.oneCell' = true ∧ a1.oneCell' = true ∧ a3.oneCell' = true ∧ a6.oneCell' = true ∧ Kept [] w' w'')
    (hMv : ∀ w', Kept [] w w' → Calls Salg.prog 173 #[.pointer (some ⟨c, 0, none⟩), A8 (ad cl), A8 (ad sf), vv] w' fun e w'' => ∃ (r vz' : Value), e = .returned r ∧ ChY w'' c { E with vz := vz' } (.slice (some ⟨fb, 0, none⟩) 1 cap) rt la ∧ Acc w'' vz' ∧ Kept [c] w' w'') :
    Calls Salg.prog 98 #[.pointer (some ⟨c, 0, none⟩), .agg (frG kd sb gv vv cu iu (ad sf) (ad cl) (wrow5 nilS nilS nilS nilS)).toArray] w fun e w' => ∃ (r : Value) (fb' cap' : Nat) (cur : Array Value) (a0 a1 a3 a6 vz' : Value), e = .returned r ∧ ChY w' c { E with vz := vz' } (.slice (some ⟨fb', 0, none⟩) 2 cap') nilS la ∧ w'.heap[fb']? = some (.cells cur 142 (0, 0)) ∧ (fb' = fb ∨ w.heap.size ≤ fb') ∧ (∀ k, k < 60 → cur[k]? = fs[k]?) ∧ (∀ k, k < 60 → cur[60 + k]? = (frG kd sb gv vv cu iu (ad sf) (ad cl) (wrow5 a0 a1 a3 a6))[k]?) ∧ cur.size = cap' * 60 ∧ cap' ≤ maxLen ∧ 2 ≤ cap' ∧ a0.oneCell' = true ∧ a1.oneCell' = true ∧ a3.oneCell' = true ∧ a6.oneCell' = true ∧ Acc w' vz' ∧ Kept [c, fb] w w' := by
  have M := Mem.start w []
  have HCL := hid hCl
  have HMV := hid hMv
  have HCR := hid hcr
  have HC := hid hC
  have HST := hid hSt
  have dk3 : decide ((kd : Int) = 3) = false := by simp; omega
  have ek3 : decide (kd = 3) = false := by simp; omega
  have bk3 : ((kd : Int) == 3) = false := by rw [beq_eq_false_iff_ne]; omega
  have ck3 : ((kd : Int) != 3) = true := by rw [bne_iff_ne]; omega
  have dk7 : decide ((kd : Int) = 7) = false := by simp; omega
  have ek7 : decide (kd = 7) = false := by simp; omega
  have bk7 : ((kd : Int) == 7) = false := by rw [beq_eq_false_iff_ne]; omega
  have ck7 : ((kd : Int) != 7) = true := by rw [bne_iff_ne]; omega
  have hfl := lt_of_row hr
  have HNB := hid hnb
  have hfc : fb ∉ [c] := by
    obtain ⟨wz, c1, c2⟩ := hC
    exact row_ne c1 hr (by intro h; injection h with _ h _; exact absurd h (by decide))
  have hcl0 : c < w.heap.size := by
    obtain ⟨wz, c1, c2⟩ := hC
    exact lt_of_row c1
  clear hC hSt  hCl hcr hMv hkd
  go_enter Salg.func98, Salg.ntmps98
  go_wp2_with ((with_reducible apply L_box M); rfl; clear M; intro t3 w1 ht3 M; simp only [Act.put, List.setIfInBounds_toArray, List.set_cons_zero, List.set_cons_succ])
  refine (HCL.out _ M.kept).mono ?_
  rintro e w2 ⟨a0, a1, a3, a6, rfl, y0, y1, y2, y3, K1⟩
  have X0 := hid y0
  have X1 := hid y1
  have X2 := hid y2
  have X3 := hid y3
  replace M := M.call K1
  clear K1 y0 y1 y2 y3 HCL
  have HONE := hid (wrow5_oneL X0.out X1.out X2.out X3.out)
  have hc3 : c ≠ t3 := by omega
  go_wp2_with (first
    | ((with_reducible apply W_stP (b := t3) (o := 52) (n := 8) (v := .agg (wrow5 a0 a1 a3 a6).toArray) (rs := (frG kd sb gv vv cu iu (ad sf) (ad cl) (wrow5 a0 a1 a3 a6)).toArray)); rfl; rfl; exact M.r0; exact size113; rfl; exact HONE.out; exact Nat.le_of_ble_eq_true (by kernel_rfl); kernel_rfl; intro w3 K1 hr3; replace M := Mem.callPut (L1 := []) M (Or.inr ht3) K1 hr3; clear K1 hr3; simp only [List.nil_append] at M)
    | ((with_reducible apply W_loadCell); rfl; exact M.r0; exact (show (frG kd sb gv vv cu iu (ad sf) (ad cl) (wrow5 a0 a1 a3 a6)).toArray[0]? = some (.int .u8 (kd : Int)) by kernel_rfl); exact Salg.underlying5; rfl; simp only [Act.put, List.setIfInBounds_toArray, List.set_cons_zero, List.set_cons_succ]))
  refine (HCR.out _).mono ?_
  rintro e w4 ⟨rfl, hw⟩
  replace hw := hw.symm
  subst hw
  go_wp2_with (first
    | ((with_reducible apply W_loadCell); rfl; exact M.r0; exact (show (frG kd sb gv vv cu iu (ad sf) (ad cl) (wrow5 a0 a1 a3 a6)).toArray[0]? = some (.int .u8 (kd : Int)) by kernel_rfl); exact Salg.underlying5; rfl; simp only [Act.put, List.setIfInBounds_toArray, List.set_cons_zero, List.set_cons_succ])
    | ((with_reducible apply W_loadCellG); rfl; rfl; exact M.r0; exact (show (frG kd sb gv vv cu iu (ad sf) (ad cl) (wrow5 a0 a1 a3 a6)).toArray[0]? = some (.int .u8 (kd : Int)) by kernel_rfl); exact Salg.underlying5; rfl; simp only [Act.put, List.setIfInBounds_toArray, List.set_cons_zero, List.set_cons_succ]))
  refine S_region (by kernel_rfl) ?_
  have M1 : Mem w [c] _ _ := (M.into (o := (w3.heap[c]?).getD default) (by
    have := M.kept.size
    rw [Array.getElem?_eq_getElem (by omega)]
    rfl) (by simpa using hc3)).tail
  refine E_stage 0 10 [0, 1, 2, 3, 4, 5, 6, 7, 8, 9] (by kernel_rfl) M1.drew ?_
  have HMK := hid M.kept
  clear M M1
  simp only [List.filterMap_cons, List.filterMap_nil, List.getElem?_cons_zero, List.getElem?_cons_succ]
  ((with_reducible apply E_run); rfl; rfl; (intro w M; go_simp; (try go_ints); (try simp only [↓IntWalk.iteOmega]); (try with_reducible rfl)); simp only [Act.put, List.setIfInBounds_toArray, List.set_cons_zero, List.set_cons_succ])
  ((with_reducible apply E_run); rfl; rfl; (intro w M; go_simp; (try go_ints); (try simp only [↓IntWalk.iteOmega]); (try with_reducible rfl)); simp only [Act.put, List.setIfInBounds_toArray, List.set_cons_zero, List.set_cons_succ])
  ((with_reducible apply E_run); rfl; rfl; (intro w M; go_simp; (try go_ints); (try simp only [↓IntWalk.iteOmega]); (try with_reducible rfl)); simp only [Act.put, List.setIfInBounds_toArray, List.set_cons_zero, List.set_cons_succ])
  ((with_reducible apply E_run); rfl; rfl; (intro w M; go_simp; (try go_ints); (try simp only [↓IntWalk.iteOmega]); (try with_reducible rfl)); simp only [Act.put, List.setIfInBounds_toArray, List.set_cons_zero, List.set_cons_succ])
  ((with_reducible apply E_run (v := .agg ((ad cl).map n8).toArray)); rfl; rfl; (intro w M; exact run_loadX (n := 20) M.r0 rfl Salg.underlying45 rfl size45 (Nat.le_of_ble_eq_true (by kernel_rfl)) (show (frG kd sb gv vv cu iu (ad sf) (ad cl) (wrow5 a0 a1 a3 a6)).toArray.extract 32 (32 + 20) = _ by kernel_rfl)); simp only [Act.put, List.setIfInBounds_toArray, List.set_cons_zero, List.set_cons_succ])
  ((with_reducible apply E_run); rfl; rfl; (intro w M; go_simp; (try go_ints); (try simp only [↓IntWalk.iteOmega]); (try with_reducible rfl)); simp only [Act.put, List.setIfInBounds_toArray, List.set_cons_zero, List.set_cons_succ])
  ((with_reducible apply E_run (v := .agg ((ad sf).map n8).toArray)); rfl; rfl; (intro w M; exact run_loadX (n := 20) M.r0 rfl Salg.underlying45 rfl size45 (Nat.le_of_ble_eq_true (by kernel_rfl)) (show (frG kd sb gv vv cu iu (ad sf) (ad cl) (wrow5 a0 a1 a3 a6)).toArray.extract 12 (12 + 20) = _ by kernel_rfl)); simp only [Act.put, List.setIfInBounds_toArray, List.set_cons_zero, List.set_cons_succ])
  ((with_reducible apply E_run); rfl; rfl; (intro w M; go_simp; (try go_ints); (try simp only [↓IntWalk.iteOmega]); (try with_reducible rfl)); simp only [Act.put, List.setIfInBounds_toArray, List.set_cons_zero, List.set_cons_succ])
  ((with_reducible apply E_run); rfl; rfl; (intro w M; exact run_loadCell (M.r0) rfl (show (frG kd sb gv vv cu iu (ad sf) (ad cl) (wrow5 a0 a1 a3 a6)).toArray[5]? = some vv by kernel_rfl) Salg.underlying89 rfl); simp only [Act.put, List.setIfInBounds_toArray, List.set_cons_zero, List.set_cons_succ])
  refine E_call rfl Salg.func173 (by kernel_rfl) (by kernel_rfl) (args := [.pointer (some ⟨c, 0, none⟩), A8 (ad cl), A8 (ad sf), vv]) rfl ?_
  intro w4 K M
  refine (HMV.out _ (HMK.out.trans ((Kept.refl [] _).drew.trans K))).mono ?_
  clear K
  rintro e w5 ⟨rr, vz, rfl, xC, xA, K⟩
  replace M := M.callX K (by simp) (by simpa using hc3)
  have HC2 := hid xC
  have HA2 := hid xA
  refine ⟨_, rfl, trivial, M, ?_⟩
  clear K xC xA
  simp only [Act.put, List.setIfInBounds_toArray, List.set_cons_zero, List.set_cons_succ]
  refine E_nil ?_
  intro w6 K M
  replace HC2 := hid (HC2.out.kept K)
  replace HA2 := hid (HST.out.kept HA2.out K)
  clear K HC
  refine S_done ?_
  have H3 := hid M.r0
  obtain ⟨EE, hEE⟩ : ∃ EE : XEnv, EE = { E with vz := vz } := ⟨_, rfl⟩
  rw [← hEE] at HC2
  have HEE := hid hEE
  clear hEE
  obtain ⟨wz, c1, c2⟩ := HC2.out
  have h3c : t3 ∉ [c] := row_ne c1 H3.out (by intro h; injection h with _ h _; exact absurd h (by decide))
  have HO := hid (chy_nb EE wz (.slice (some ⟨fb, 0, none⟩) 1 cap) rt)
  have HO' := hid (chy_nb EE wz (.slice (some ⟨fb, 0, none⟩) 1 cap) nilS)
  have HC3 := hid c2
  have hcf : c ∉ [fb] := by
    intro h
    simp at h
    subst h
    simp at hfc
  have h3f : t3 ∉ [fb] := by
    simp
    omega
  have hrw := M.kept.row hr hfc
  have HK : Hid (Kept [c, fb] w w6) := M.kept.mono (by simp)
  clear c2 HC2 M hr
  go_wp2_with ((with_reducible apply W_stV (b := c) (o := 10) (v := nilS)); rfl; rfl; rfl; exact c1; exact size40; exact Nat.le_of_ble_eq_true (by kernel_rfl); intro w7 K1 hr5)
  rw [show (chN EE wz (.slice (some ⟨fb, 0, none⟩) 1 cap) rt).setIfInBounds 10 nilS = (chN EE wz (.slice (some ⟨fb, 0, none⟩) 1 cap) nilS) from by kernel_rfl] at hr5
  replace H3 := hid (K1.row H3.out h3c)
  replace hrw := K1.row hrw hfc
  replace HC3 := hid (HC3.out.keptC K1 c1 (by decide))
  replace HA2 := hid (HST.out.keptC HA2.out K1 c1 HO.out (.inl rfl))
  replace HK := hid (HK.out.trans (K1.mono (by simp)))
  clear c1 K1
  have M := Mem.start w7 [fb]
  have hcl5 := lt_of_row hr5
  have h3l := lt_of_row H3.out
  have hw5 := HK.out.size
  have hf5 := lt_of_row hrw
  have HOF := hid (own_frames (n := 1) hrw hsz hcap hc1)
  refine S_region (by kernel_rfl) ?_
  replace HOF := hid (own_kept HOF.out (Kept.refl [] _).drew)
  refine E_stage 0 8 [0, 1, 2, 3, 4, 5, 6, 7] (by kernel_rfl) M.drew ?_
  clear M
  simp only [List.filterMap_cons, List.filterMap_nil, List.getElem?_cons_zero, List.getElem?_cons_succ]
  ((with_reducible apply E_run); rfl; rfl; (intro w M; go_simp; (try go_ints); (try simp only [↓IntWalk.iteOmega]); (try with_reducible rfl)); simp only [Act.put, List.setIfInBounds_toArray, List.set_cons_zero, List.set_cons_succ])
  ((with_reducible apply E_run); rfl; rfl; (intro w M; go_simp; (try go_ints); (try simp only [↓IntWalk.iteOmega]); (try with_reducible rfl)); simp only [Act.put, List.setIfInBounds_toArray, List.set_cons_zero, List.set_cons_succ])
  ((with_reducible apply E_run); rfl; rfl; (intro w M; go_simp; (try go_ints); (try simp only [↓IntWalk.iteOmega]); (try with_reducible rfl)); simp only [Act.put, List.setIfInBounds_toArray, List.set_cons_zero, List.set_cons_succ])
  ((with_reducible apply E_run); rfl; rfl; (intro w M; go_simp; (try go_ints); (try simp only [↓IntWalk.iteOmega]); (try with_reducible rfl)); simp only [Act.put, List.setIfInBounds_toArray, List.set_cons_zero, List.set_cons_succ])
  ((with_reducible apply E_run); rfl; rfl; (intro w M; exact run_loadCell (M.kept.row hr5 hcf) rfl (show (chN EE wz (.slice (some ⟨fb, 0, none⟩) 1 cap) nilS)[9]? = some (.slice (some ⟨fb, 0, none⟩) 1 cap) by kernel_rfl) Salg.underlying115 rfl); simp only [Act.put, List.setIfInBounds_toArray, List.set_cons_zero, List.set_cons_succ])
  ((with_reducible apply E_run); rfl; rfl; (intro w M; exact run_loadAll (M.kept.row H3.out h3f) rfl Salg.underlying142 rfl (by kernel_rfl)); simp only [Act.put, List.setIfInBounds_toArray, List.set_cons_zero, List.set_cons_succ])
  refine E_buildIt (vs := (frG kd sb gv vv cu iu (ad sf) (ad cl) (wrow5 a0 a1 a3 a6)).toArray) (s := 60) rfl rfl Salg.underlying115 size142 zero142s rfl (by decide) (by decide) ?_
  intro bn wa wb K1 hbn hbn2 K2 M
  replace HOF := hid (own_kept (own_kept HOF.out K1) K2)
  have hbw2 := M.kept.size
  clear K1 K2
  simp only [Act.put, List.setIfInBounds_toArray, List.set_cons_zero, List.set_cons_succ]
  refine E_appendY (base := 0) (n := 1) (m := 1) (s := 60) (bn := bn) (so := 0) (xs := fs.toList.take (1 * 60)) (news := (frG kd sb gv vv cu iu (ad sf) (ad cl) (wrow5 a0 a1 a3 a6))) (cs := (frG kd sb gv vv cu iu (ad sf) (ad cl) (wrow5 a0 a1 a3 a6)).toArray) info142 Salg.underlying115 rfl (by decide) (by decide) rfl rfl HOF.out (by decide) M.r0 rfl (cells_news _) (frG_one g1 g2 g3 g4 X0.out X1.out X2.out X3.out) (Nat.zero_le _) (by intro q hq; cases hq; exact Or.inl (List.mem_singleton.2 rfl)) (by intro p hp; cases hp) ?_
  clear M
  intro VV wc wd K1 M xO K2 xN
  have HOW := hid xO
  have HNEW : Hid (∀ b, VV.ownBlock = some b → b = fb ∨ w.heap.size ≤ b) := fun b hb => (xN b hb).imp (fun h => (Option.some.inj h).symm) (fun h => Nat.le_trans hw5 (Nat.le_trans hbw2 h))
  clear xO K1 K2 HOF xN
  simp only [Act.put, List.setIfInBounds_toArray, List.set_cons_zero, List.set_cons_succ]
  refine E_nil ?_
  intro w8 K1 M
  replace HOW := hid (own_kept HOW.out K1)
  clear K1
  refine S_seg 8 11 (by kernel_rfl) (by decide) ?_
  simp only [List.take_succ_cons, List.take_zero, List.drop_zero, List.drop_succ_cons, Nat.sub_zero, Nat.reduceSub]
  obtain ⟨fb', cap', cur, rfl, z2, z3, z4, z5, z6, z7⟩ := own_more HOW.out (by rw [List.length_take, Array.length_toList, hsz]; omega) (by rfl)
  have hnew := HNEW.out fb' rfl
  have K2' : Kept [fb] w7 w8 := M.kept
  have hcw := K2'.row hr5 hcf
  have HC2' := hid (HC3.out.keptC K2' hrw (by decide))
  replace HA2 := hid (HST.out.keptC HA2.out K2' hrw HNB.out (.inr rfl))
  replace HK := hid (HK.out.trans (K2'.mono (by simp)))
  have HZ3 := hid z3
  have HZ4 := hid z4
  have hf2 : fb' ∉ [c] := row_ne hcw z2 (by intro h; injection h with _ h _; exact absurd h (by decide))
  clear HOW K2' M HC3 z3 z4 HNEW
  go_wp2_with ((with_reducible apply W_stV (b := c) (o := 9) (v := .slice (some ⟨fb', 0, none⟩) 2 cap')); rfl; rfl; rfl; exact hcw; exact size115; exact Nat.le_of_ble_eq_true (by kernel_rfl); intro w9 K3 hr9)
  refine S_done ?_
  rw [show (chN EE wz (.slice (some ⟨fb, 0, none⟩) 1 cap) nilS).setIfInBounds 9 (.slice (some ⟨fb', 0, none⟩) 2 cap') = (chN EE wz (.slice (some ⟨fb', 0, none⟩) 2 cap') nilS) from by kernel_rfl] at hr9
  have HF : Hid (ChY w9 c EE (.slice (some ⟨fb', 0, none⟩) 2 cap') nilS la) := ⟨wz, hr9, HC2'.out.keptC K3 hcw (by decide)⟩
  replace HA2 := hid (HST.out.keptC HA2.out K3 hcw HO'.out (.inl rfl))
  have HK9 := hid (HK.out.trans (K3.mono (by simp)))
  have HZ2 := hid (K3.row z2 hf2)
  clear K3 hr9 hcw z2
  go_wp2_with fail
  go_end0
  rw [HEE.out] at HF
  refine ⟨_, fb', cap', cur, a0, a1, a3, a6, vz, rfl, HF.out, HZ2.out, hnew, fun k hk => ?_, HZ4.out, z5, z6, z7, X0.out, X1.out, X2.out, X3.out, HA2.out, HK9.out⟩
  rw [HZ3.out k (by omega), List.getElem?_take_of_lt (by omega)]
  simp

set_option maxHeartbeats 4000000 in
set_option maxRecDepth 100000 in
theorem enterY2 (c fb cap kd sf cl : Nat) (sb : Bool) (fs : Array Value) (la : List (List Nat)) (E : XEnv) (rt gv vv cu iu : Value) (Acc : World → Value → Prop) (w : World) (hC : ChY w c E (.slice (some ⟨fb, 0, none⟩) 2 cap) rt la) (hSt : Still Acc) (hr : w.heap[fb]? = some (.cells fs 142 (0, 0))) (hnb : ∀ t l, Obj.cells fs 142 (0, 0) ≠ R8 t l) (hsz : fs.size = cap * 60) (hcap : cap ≤ maxLen) (hc1 : 2 ≤ cap) (g1 : gv.oneCell' = true) (g2 : vv.oneCell' = true) (g3 : cu.oneCell' = true) (g4 : iu.oneCell' = true) (hkd : kd ≠ 3 ∧ kd ≠ 7) (hcr : ∀ w, Calls Salg.prog 172 #[.int .u8 (kd : Int)] w fun e w' => e = .returned (.bool false) ∧ w' = w)
    (hCl : ∀ w', Kept [] w w' → Calls Salg.prog 171 #[.pointer (some ⟨c, 0, none⟩)] w' fun e w'' => ∃ a0 a1 a3 a6 : Value, e = .returned (.agg (wrow5 a0 a1 a3 a6).toArray) ∧ a0.oneCell' = true ∧ a1.oneCell' = true ∧ a3.oneCell' = true ∧ a6.oneCell' = true ∧ Kept [] w' w'')
    (hMv : ∀ w', Kept [] w w' → Calls Salg.prog 173 #[.pointer (some ⟨c, 0, none⟩), A8 (ad cl), A8 (ad sf), vv] w' fun e w'' => ∃ (r vz' : Value), e = .returned r ∧ ChY w'' c { E with vz := vz' } (.slice (some ⟨fb, 0, none⟩) 2 cap) rt la ∧ Acc w'' vz' ∧ Kept [c] w' w'') :
    Calls Salg.prog 98 #[.pointer (some ⟨c, 0, none⟩), .agg (frG kd sb gv vv cu iu (ad sf) (ad cl) (wrow5 nilS nilS nilS nilS)).toArray] w fun e w' => ∃ (r : Value) (fb' cap' : Nat) (cur : Array Value) (a0 a1 a3 a6 vz' : Value), e = .returned r ∧ ChY w' c { E with vz := vz' } (.slice (some ⟨fb', 0, none⟩) 3 cap') nilS la ∧ w'.heap[fb']? = some (.cells cur 142 (0, 0)) ∧ (fb' = fb ∨ w.heap.size ≤ fb') ∧ (∀ k, k < 120 → cur[k]? = fs[k]?) ∧ (∀ k, k < 60 → cur[120 + k]? = (frG kd sb gv vv cu iu (ad sf) (ad cl) (wrow5 a0 a1 a3 a6))[k]?) ∧ cur.size = cap' * 60 ∧ cap' ≤ maxLen ∧ 3 ≤ cap' ∧ a0.oneCell' = true ∧ a1.oneCell' = true ∧ a3.oneCell' = true ∧ a6.oneCell' = true ∧ Acc w' vz' ∧ Kept [c, fb] w w' := by
  have M := Mem.start w []
  have HCL := hid hCl
  have HMV := hid hMv
  have HCR := hid hcr
  have HC := hid hC
  have HST := hid hSt
  have dk3 : decide ((kd : Int) = 3) = false := by simp; omega
  have ek3 : decide (kd = 3) = false := by simp; omega
  have bk3 : ((kd : Int) == 3) = false := by rw [beq_eq_false_iff_ne]; omega
  have ck3 : ((kd : Int) != 3) = true := by rw [bne_iff_ne]; omega
  have dk7 : decide ((kd : Int) = 7) = false := by simp; omega
  have ek7 : decide (kd = 7) = false := by simp; omega
  have bk7 : ((kd : Int) == 7) = false := by rw [beq_eq_false_iff_ne]; omega
  have ck7 : ((kd : Int) != 7) = true := by rw [bne_iff_ne]; omega
  have hfl := lt_of_row hr
  have HNB := hid hnb
  have hfc : fb ∉ [c] := by
    obtain ⟨wz, c1, c2⟩ := hC
    exact row_ne c1 hr (by intro h; injection h with _ h _; exact absurd h (by decide))
  have hcl0 : c < w.heap.size := by
    obtain ⟨wz, c1, c2⟩ := hC
    exact lt_of_row c1
  clear hC hSt  hCl hcr hMv hkd
  go_enter Salg.func98, Salg.ntmps98
  go_wp2_with ((with_reducible apply L_box M); rfl; clear M; intro t3 w1 ht3 M; simp only [Act.put, List.setIfInBounds_toArray, List.set_cons_zero, List.set_cons_succ])
  refine (HCL.out _ M.kept).mono ?_
  rintro e w2 ⟨a0, a1, a3, a6, rfl, y0, y1, y2, y3, K1⟩
  have X0 := hid y0
  have X1 := hid y1
  have X2 := hid y2
  have X3 := hid y3
  replace M := M.call K1
  clear K1 y0 y1 y2 y3 HCL
  have HONE := hid (wrow5_oneL X0.out X1.out X2.out X3.out)
  have hc3 : c ≠ t3 := by omega
  go_wp2_with (first
    | ((with_reducible apply W_stP (b := t3) (o := 52) (n := 8) (v := .agg (wrow5 a0 a1 a3 a6).toArray) (rs := (frG kd sb gv vv cu iu (ad sf) (ad cl) (wrow5 a0 a1 a3 a6)).toArray)); rfl; rfl; exact M.r0; exact size113; rfl; exact HONE.out; exact Nat.le_of_ble_eq_true (by kernel_rfl); kernel_rfl; intro w3 K1 hr3; replace M := Mem.callPut (L1 := []) M (Or.inr ht3) K1 hr3; clear K1 hr3; simp only [List.nil_append] at M)
    | ((with_reducible apply W_loadCell); rfl; exact M.r0; exact (show (frG kd sb gv vv cu iu (ad sf) (ad cl) (wrow5 a0 a1 a3 a6)).toArray[0]? = some (.int .u8 (kd : Int)) by kernel_rfl); exact Salg.underlying5; rfl; simp only [Act.put, List.setIfInBounds_toArray, List.set_cons_zero, List.set_cons_succ]))
  refine (HCR.out _).mono ?_
  rintro e w4 ⟨rfl, hw⟩
  replace hw := hw.symm
  subst hw
  go_wp2_with (first
    | ((with_reducible apply W_loadCell); rfl; exact M.r0; exact (show (frG kd sb gv vv cu iu (ad sf) (ad cl) (wrow5 a0 a1 a3 a6)).toArray[0]? = some (.int .u8 (kd : Int)) by kernel_rfl); exact Salg.underlying5; rfl; simp only [Act.put, List.setIfInBounds_toArray, List.set_cons_zero, List.set_cons_succ])
    | ((with_reducible apply W_loadCellG); rfl; rfl; exact M.r0; exact (show (frG kd sb gv vv cu iu (ad sf) (ad cl) (wrow5 a0 a1 a3 a6)).toArray[0]? = some (.int .u8 (kd : Int)) by kernel_rfl); exact Salg.underlying5; rfl; simp only [Act.put, List.setIfInBounds_toArray, List.set_cons_zero, List.set_cons_succ]))
  refine S_region (by kernel_rfl) ?_
  have M1 : Mem w [c] _ _ := (M.into (o := (w3.heap[c]?).getD default) (by
    have := M.kept.size
    rw [Array.getElem?_eq_getElem (by omega)]
    rfl) (by simpa using hc3)).tail
  refine E_stage 0 10 [0, 1, 2, 3, 4, 5, 6, 7, 8, 9] (by kernel_rfl) M1.drew ?_
  have HMK := hid M.kept
  clear M M1
  simp only [List.filterMap_cons, List.filterMap_nil, List.getElem?_cons_zero, List.getElem?_cons_succ]
  ((with_reducible apply E_run); rfl; rfl; (intro w M; go_simp; (try go_ints); (try simp only [↓IntWalk.iteOmega]); (try with_reducible rfl)); simp only [Act.put, List.setIfInBounds_toArray, List.set_cons_zero, List.set_cons_succ])
  ((with_reducible apply E_run); rfl; rfl; (intro w M; go_simp; (try go_ints); (try simp only [↓IntWalk.iteOmega]); (try with_reducible rfl)); simp only [Act.put, List.setIfInBounds_toArray, List.set_cons_zero, List.set_cons_succ])
  ((with_reducible apply E_run); rfl; rfl; (intro w M; go_simp; (try go_ints); (try simp only [↓IntWalk.iteOmega]); (try with_reducible rfl)); simp only [Act.put, List.setIfInBounds_toArray, List.set_cons_zero, List.set_cons_succ])
  ((with_reducible apply E_run); rfl; rfl; (intro w M; go_simp; (try go_ints); (try simp only [↓IntWalk.iteOmega]); (try with_reducible rfl)); simp only [Act.put, List.setIfInBounds_toArray, List.set_cons_zero, List.set_cons_succ])
  ((with_reducible apply E_run (v := .agg ((ad cl).map n8).toArray)); rfl; rfl; (intro w M; exact run_loadX (n := 20) M.r0 rfl Salg.underlying45 rfl size45 (Nat.le_of_ble_eq_true (by kernel_rfl)) (show (frG kd sb gv vv cu iu (ad sf) (ad cl) (wrow5 a0 a1 a3 a6)).toArray.extract 32 (32 + 20) = _ by kernel_rfl)); simp only [Act.put, List.setIfInBounds_toArray, List.set_cons_zero, List.set_cons_succ])
  ((with_reducible apply E_run); rfl; rfl; (intro w M; go_simp; (try go_ints); (try simp only [↓IntWalk.iteOmega]); (try with_reducible rfl)); simp only [Act.put, List.setIfInBounds_toArray, List.set_cons_zero, List.set_cons_succ])
  ((with_reducible apply E_run (v := .agg ((ad sf).map n8).toArray)); rfl; rfl; (intro w M; exact run_loadX (n := 20) M.r0 rfl Salg.underlying45 rfl size45 (Nat.le_of_ble_eq_true (by kernel_rfl)) (show (frG kd sb gv vv cu iu (ad sf) (ad cl) (wrow5 a0 a1 a3 a6)).toArray.extract 12 (12 + 20) = _ by kernel_rfl)); simp only [Act.put, List.setIfInBounds_toArray, List.set_cons_zero, List.set_cons_succ])
  ((with_reducible apply E_run); rfl; rfl; (intro w M; go_simp; (try go_ints); (try simp only [↓IntWalk.iteOmega]); (try with_reducible rfl)); simp only [Act.put, List.setIfInBounds_toArray, List.set_cons_zero, List.set_cons_succ])
  ((with_reducible apply E_run); rfl; rfl; (intro w M; exact run_loadCell (M.r0) rfl (show (frG kd sb gv vv cu iu (ad sf) (ad cl) (wrow5 a0 a1 a3 a6)).toArray[5]? = some vv by kernel_rfl) Salg.underlying89 rfl); simp only [Act.put, List.setIfInBounds_toArray, List.set_cons_zero, List.set_cons_succ])
  refine E_call rfl Salg.func173 (by kernel_rfl) (by kernel_rfl) (args := [.pointer (some ⟨c, 0, none⟩), A8 (ad cl), A8 (ad sf), vv]) rfl ?_
  intro w4 K M
  refine (HMV.out _ (HMK.out.trans ((Kept.refl [] _).drew.trans K))).mono ?_
  clear K
  rintro e w5 ⟨rr, vz, rfl, xC, xA, K⟩
  replace M := M.callX K (by simp) (by simpa using hc3)
  have HC2 := hid xC
  have HA2 := hid xA
  refine ⟨_, rfl, trivial, M, ?_⟩
  clear K xC xA
  simp only [Act.put, List.setIfInBounds_toArray, List.set_cons_zero, List.set_cons_succ]
  refine E_nil ?_
  intro w6 K M
  replace HC2 := hid (HC2.out.kept K)
  replace HA2 := hid (HST.out.kept HA2.out K)
  clear K HC
  refine S_done ?_
  have H3 := hid M.r0
  obtain ⟨EE, hEE⟩ : ∃ EE : XEnv, EE = { E with vz := vz } := ⟨_, rfl⟩
  rw [← hEE] at HC2
  have HEE := hid hEE
  clear hEE
  obtain ⟨wz, c1, c2⟩ := HC2.out
  have h3c : t3 ∉ [c] := row_ne c1 H3.out (by intro h; injection h with _ h _; exact absurd h (by decide))
  have HO := hid (chy_nb EE wz (.slice (some ⟨fb, 0, none⟩) 2 cap) rt)
  have HO' := hid (chy_nb EE wz (.slice (some ⟨fb, 0, none⟩) 2 cap) nilS)
  have HC3 := hid c2
  have hcf : c ∉ [fb] := by
    intro h
    simp at h
    subst h
    simp at hfc
  have h3f : t3 ∉ [fb] := by
    simp
    omega
  have hrw := M.kept.row hr hfc
  have HK : Hid (Kept [c, fb] w w6) := M.kept.mono (by simp)
  clear c2 HC2 M hr
  go_wp2_with ((with_reducible apply W_stV (b := c) (o := 10) (v := nilS)); rfl; rfl; rfl; exact c1; exact size40; exact Nat.le_of_ble_eq_true (by kernel_rfl); intro w7 K1 hr5)
  rw [show (chN EE wz (.slice (some ⟨fb, 0, none⟩) 2 cap) rt).setIfInBounds 10 nilS = (chN EE wz (.slice (some ⟨fb, 0, none⟩) 2 cap) nilS) from by kernel_rfl] at hr5
  replace H3 := hid (K1.row H3.out h3c)
  replace hrw := K1.row hrw hfc
  replace HC3 := hid (HC3.out.keptC K1 c1 (by decide))
  replace HA2 := hid (HST.out.keptC HA2.out K1 c1 HO.out (.inl rfl))
  replace HK := hid (HK.out.trans (K1.mono (by simp)))
  clear c1 K1
  have M := Mem.start w7 [fb]
  have hcl5 := lt_of_row hr5
  have h3l := lt_of_row H3.out
  have hw5 := HK.out.size
  have hf5 := lt_of_row hrw
  have HOF := hid (own_frames (n := 2) hrw hsz hcap hc1)
  refine S_region (by kernel_rfl) ?_
  replace HOF := hid (own_kept HOF.out (Kept.refl [] _).drew)
  refine E_stage 0 8 [0, 1, 2, 3, 4, 5, 6, 7] (by kernel_rfl) M.drew ?_
  clear M
  simp only [List.filterMap_cons, List.filterMap_nil, List.getElem?_cons_zero, List.getElem?_cons_succ]
  ((with_reducible apply E_run); rfl; rfl; (intro w M; go_simp; (try go_ints); (try simp only [↓IntWalk.iteOmega]); (try with_reducible rfl)); simp only [Act.put, List.setIfInBounds_toArray, List.set_cons_zero, List.set_cons_succ])
  ((with_reducible apply E_run); rfl; rfl; (intro w M; go_simp; (try go_ints); (try simp only [↓IntWalk.iteOmega]); (try with_reducible rfl)); simp only [Act.put, List.setIfInBounds_toArray, List.set_cons_zero, List.set_cons_succ])
  ((with_reducible apply E_run); rfl; rfl; (intro w M; go_simp; (try go_ints); (try simp only [↓IntWalk.iteOmega]); (try with_reducible rfl)); simp only [Act.put, List.setIfInBounds_toArray, List.set_cons_zero, List.set_cons_succ])
  ((with_reducible apply E_run); rfl; rfl; (intro w M; go_simp; (try go_ints); (try simp only [↓IntWalk.iteOmega]); (try with_reducible rfl)); simp only [Act.put, List.setIfInBounds_toArray, List.set_cons_zero, List.set_cons_succ])
  ((with_reducible apply E_run); rfl; rfl; (intro w M; exact run_loadCell (M.kept.row hr5 hcf) rfl (show (chN EE wz (.slice (some ⟨fb, 0, none⟩) 2 cap) nilS)[9]? = some (.slice (some ⟨fb, 0, none⟩) 2 cap) by kernel_rfl) Salg.underlying115 rfl); simp only [Act.put, List.setIfInBounds_toArray, List.set_cons_zero, List.set_cons_succ])
  ((with_reducible apply E_run); rfl; rfl; (intro w M; exact run_loadAll (M.kept.row H3.out h3f) rfl Salg.underlying142 rfl (by kernel_rfl)); simp only [Act.put, List.setIfInBounds_toArray, List.set_cons_zero, List.set_cons_succ])
  refine E_buildIt (vs := (frG kd sb gv vv cu iu (ad sf) (ad cl) (wrow5 a0 a1 a3 a6)).toArray) (s := 60) rfl rfl Salg.underlying115 size142 zero142s rfl (by decide) (by decide) ?_
  intro bn wa wb K1 hbn hbn2 K2 M
  replace HOF := hid (own_kept (own_kept HOF.out K1) K2)
  have hbw2 := M.kept.size
  clear K1 K2
  simp only [Act.put, List.setIfInBounds_toArray, List.set_cons_zero, List.set_cons_succ]
  refine E_appendY (base := 0) (n := 2) (m := 1) (s := 60) (bn := bn) (so := 0) (xs := fs.toList.take (2 * 60)) (news := (frG kd sb gv vv cu iu (ad sf) (ad cl) (wrow5 a0 a1 a3 a6))) (cs := (frG kd sb gv vv cu iu (ad sf) (ad cl) (wrow5 a0 a1 a3 a6)).toArray) info142 Salg.underlying115 rfl (by decide) (by decide) rfl rfl HOF.out (by decide) M.r0 rfl (cells_news _) (frG_one g1 g2 g3 g4 X0.out X1.out X2.out X3.out) (Nat.zero_le _) (by intro q hq; cases hq; exact Or.inl (List.mem_singleton.2 rfl)) (by intro p hp; cases hp) ?_
  clear M
  intro VV wc wd K1 M xO K2 xN
  have HOW := hid xO
  have HNEW : Hid (∀ b, VV.ownBlock = some b → b = fb ∨ w.heap.size ≤ b) := fun b hb => (xN b hb).imp (fun h => (Option.some.inj h).symm) (fun h => Nat.le_trans hw5 (Nat.le_trans hbw2 h))
  clear xO K1 K2 HOF xN
  simp only [Act.put, List.setIfInBounds_toArray, List.set_cons_zero, List.set_cons_succ]
  refine E_nil ?_
  intro w8 K1 M
  replace HOW := hid (own_kept HOW.out K1)
  clear K1
  refine S_seg 8 11 (by kernel_rfl) (by decide) ?_
  simp only [List.take_succ_cons, List.take_zero, List.drop_zero, List.drop_succ_cons, Nat.sub_zero, Nat.reduceSub]
  obtain ⟨fb', cap', cur, rfl, z2, z3, z4, z5, z6, z7⟩ := own_more HOW.out (by rw [List.length_take, Array.length_toList, hsz]; omega) (by rfl)
  have hnew := HNEW.out fb' rfl
  have K2' : Kept [fb] w7 w8 := M.kept
  have hcw := K2'.row hr5 hcf
  have HC2' := hid (HC3.out.keptC K2' hrw (by decide))
  replace HA2 := hid (HST.out.keptC HA2.out K2' hrw HNB.out (.inr rfl))
  replace HK := hid (HK.out.trans (K2'.mono (by simp)))
  have HZ3 := hid z3
  have HZ4 := hid z4
  have hf2 : fb' ∉ [c] := row_ne hcw z2 (by intro h; injection h with _ h _; exact absurd h (by decide))
  clear HOW K2' M HC3 z3 z4 HNEW
  go_wp2_with ((with_reducible apply W_stV (b := c) (o := 9) (v := .slice (some ⟨fb', 0, none⟩) 3 cap')); rfl; rfl; rfl; exact hcw; exact size115; exact Nat.le_of_ble_eq_true (by kernel_rfl); intro w9 K3 hr9)
  refine S_done ?_
  rw [show (chN EE wz (.slice (some ⟨fb, 0, none⟩) 2 cap) nilS).setIfInBounds 9 (.slice (some ⟨fb', 0, none⟩) 3 cap') = (chN EE wz (.slice (some ⟨fb', 0, none⟩) 3 cap') nilS) from by kernel_rfl] at hr9
  have HF : Hid (ChY w9 c EE (.slice (some ⟨fb', 0, none⟩) 3 cap') nilS la) := ⟨wz, hr9, HC2'.out.keptC K3 hcw (by decide)⟩
  replace HA2 := hid (HST.out.keptC HA2.out K3 hcw HO'.out (.inl rfl))
  have HK9 := hid (HK.out.trans (K3.mono (by simp)))
  have HZ2 := hid (K3.row z2 hf2)
  clear K3 hr9 hcw z2
  go_wp2_with fail
  go_end0
  rw [HEE.out] at HF
  refine ⟨_, fb', cap', cur, a0, a1, a3, a6, vz, rfl, HF.out, HZ2.out, hnew, fun k hk => ?_, HZ4.out, z5, z6, z7, X0.out, X1.out, X2.out, X3.out, HA2.out, HK9.out⟩
  rw [HZ3.out k (by omega), List.getElem?_take_of_lt (by omega)]
  simp

set_option maxHeartbeats 4000000 in
set_option maxRecDepth 100000 in
theorem enterY1d (c fb cap kd sf cl : Nat) (sb : Bool) (fs : Array Value) (la : List (List Nat)) (E : XEnv) (rt gv vv cu iu : Value) (Acc : World → Value → Prop) (w : World) (hC : ChY w c E (.slice (some ⟨fb, 0, none⟩) 1 cap) rt la) (hSt : Still Acc) (hAcc : Acc w E.vz) (hr : w.heap[fb]? = some (.cells fs 142 (0, 0))) (hnb : ∀ t l, Obj.cells fs 142 (0, 0) ≠ R8 t l) (hsz : fs.size = cap * 60) (hcap : cap ≤ maxLen) (hc1 : 1 ≤ cap) (g1 : gv.oneCell' = true) (g2 : vv.oneCell' = true) (g3 : cu.oneCell' = true) (g4 : iu.oneCell' = true) (hkd : kd = 3) (hcr : ∀ w, Calls Salg.prog 172 #[.int .u8 (kd : Int)] w fun e w' => e = .returned (.bool false) ∧ w' = w)
    (hCl : ∀ w', Kept [] w w' → Calls Salg.prog 171 #[.pointer (some ⟨c, 0, none⟩)] w' fun e w'' => ∃ a0 a1 a3 a6 : Value, e = .returned (.agg (wrow5 a0 a1 a3 a6).toArray) ∧ a0.oneCell' = true ∧ a1.oneCell' = true ∧ a3.oneCell' = true ∧ a6.oneCell' = true ∧ Kept [] w' w'') :
    Calls Salg.prog 98 #[.pointer (some ⟨c, 0, none⟩), .agg (frG kd sb gv vv cu iu (ad sf) (ad cl) (wrow5 nilS nilS nilS nilS)).toArray] w fun e w' => ∃ (r : Value) (fb' cap' : Nat) (cur : Array Value) (a0 a1 a3 a6 vz' : Value), e = .returned r ∧ ChY w' c { E with vz := vz' } (.slice (some ⟨fb', 0, none⟩) 2 cap') nilS la ∧ w'.heap[fb']? = some (.cells cur 142 (0, 0)) ∧ (fb' = fb ∨ w.heap.size ≤ fb') ∧ (∀ k, k < 60 → cur[k]? = fs[k]?) ∧ (∀ k, k < 60 → cur[60 + k]? = (frG kd sb gv vv cu iu (ad sf) (ad cl) (wrow5 a0 a1 a3 a6))[k]?) ∧ cur.size = cap' * 60 ∧ cap' ≤ maxLen ∧ 2 ≤ cap' ∧ a0.oneCell' = true ∧ a1.oneCell' = true ∧ a3.oneCell' = true ∧ a6.oneCell' = true ∧ Acc w' vz' ∧ Kept [c, fb] w w' := by
  have M := Mem.start w []
  have HCL := hid hCl
  have HCR := hid hcr
  have HC := hid hC
  have HAC := hid hAcc
  have HST := hid hSt
  subst hkd
  have hfl := lt_of_row hr
  have HNB := hid hnb
  have hfc : fb ∉ [c] := by
    obtain ⟨wz, c1, c2⟩ := hC
    exact row_ne c1 hr (by intro h; injection h with _ h _; exact absurd h (by decide))
  have hcl0 : c < w.heap.size := by
    obtain ⟨wz, c1, c2⟩ := hC
    exact lt_of_row c1
  clear hC hSt hAcc hCl hcr 
  go_enter Salg.func98, Salg.ntmps98
  go_wp2_with ((with_reducible apply L_box M); rfl; clear M; intro t3 w1 ht3 M; simp only [Act.put, List.setIfInBounds_toArray, List.set_cons_zero, List.set_cons_succ])
  refine (HCL.out _ M.kept).mono ?_
  rintro e w2 ⟨a0, a1, a3, a6, rfl, y0, y1, y2, y3, K1⟩
  have X0 := hid y0
  have X1 := hid y1
  have X2 := hid y2
  have X3 := hid y3
  replace M := M.call K1
  clear K1 y0 y1 y2 y3 HCL
  have HONE := hid (wrow5_oneL X0.out X1.out X2.out X3.out)
  have hc3 : c ≠ t3 := by omega
  go_wp2_with (first
    | ((with_reducible apply W_stP (b := t3) (o := 52) (n := 8) (v := .agg (wrow5 a0 a1 a3 a6).toArray) (rs := (frG 3 sb gv vv cu iu (ad sf) (ad cl) (wrow5 a0 a1 a3 a6)).toArray)); rfl; rfl; exact M.r0; exact size113; rfl; exact HONE.out; exact Nat.le_of_ble_eq_true (by kernel_rfl); kernel_rfl; intro w3 K1 hr3; replace M := Mem.callPut (L1 := []) M (Or.inr ht3) K1 hr3; clear K1 hr3; simp only [List.nil_append] at M)
    | ((with_reducible apply W_loadCell); rfl; exact M.r0; exact (show (frG 3 sb gv vv cu iu (ad sf) (ad cl) (wrow5 a0 a1 a3 a6)).toArray[0]? = some (.int .u8 (3 : Int)) by kernel_rfl); exact Salg.underlying5; rfl; simp only [Act.put, List.setIfInBounds_toArray, List.set_cons_zero, List.set_cons_succ]))
  refine (HCR.out _).mono ?_
  rintro e w4 ⟨rfl, hw⟩
  replace hw := hw.symm
  subst hw
  have HC2 : Hid (ChY _ c E _ rt la) := HC.out.kept M.kept
  have HA2 := hid (HST.out.kept HAC.out M.kept)
  clear HC HAC
  replace M : Mem w [c] _ _ := (M.into (o := (w3.heap[c]?).getD default) (by
    have := M.kept.size
    rw [Array.getElem?_eq_getElem (by omega)]
    rfl) (by simpa using hc3)).tail
  have H3 := hid M.r0
  obtain ⟨EE, hEE⟩ : ∃ EE : XEnv, EE = E := ⟨_, rfl⟩
  rw [← hEE] at HC2
  have HEE := hid hEE
  clear hEE
  obtain ⟨wz, c1, c2⟩ := HC2.out
  have h3c : t3 ∉ [c] := row_ne c1 H3.out (by intro h; injection h with _ h _; exact absurd h (by decide))
  have HO := hid (chy_nb EE wz (.slice (some ⟨fb, 0, none⟩) 1 cap) rt)
  have HO' := hid (chy_nb EE wz (.slice (some ⟨fb, 0, none⟩) 1 cap) nilS)
  have HC3 := hid c2
  have hcf : c ∉ [fb] := by
    intro h
    simp at h
    subst h
    simp at hfc
  have h3f : t3 ∉ [fb] := by
    simp
    omega
  have hrw := M.kept.row hr hfc
  have HK : Hid (Kept [c, fb] w w3) := M.kept.mono (by simp)
  clear c2 HC2 M hr
  go_wp2_with (first
    | ((with_reducible apply W_loadCell); rfl; exact H3.out; exact (show (frG 3 sb gv vv cu iu (ad sf) (ad cl) (wrow5 a0 a1 a3 a6)).toArray[0]? = some (.int .u8 (3 : Int)) by kernel_rfl); exact Salg.underlying5; rfl; simp only [Act.put, List.setIfInBounds_toArray, List.set_cons_zero, List.set_cons_succ])
    | ((with_reducible apply W_loadCellG); rfl; rfl; exact H3.out; exact (show (frG 3 sb gv vv cu iu (ad sf) (ad cl) (wrow5 a0 a1 a3 a6)).toArray[0]? = some (.int .u8 (3 : Int)) by kernel_rfl); exact Salg.underlying5; rfl; simp only [Act.put, List.setIfInBounds_toArray, List.set_cons_zero, List.set_cons_succ])
    | ((with_reducible apply W_stV (b := c) (o := 10) (v := nilS)); rfl; rfl; rfl; exact c1; exact size40; exact Nat.le_of_ble_eq_true (by kernel_rfl); intro w7 K1 hr5))
  rw [show (chN EE wz (.slice (some ⟨fb, 0, none⟩) 1 cap) rt).setIfInBounds 10 nilS = (chN EE wz (.slice (some ⟨fb, 0, none⟩) 1 cap) nilS) from by kernel_rfl] at hr5
  replace H3 := hid (K1.row H3.out h3c)
  replace hrw := K1.row hrw hfc
  replace HC3 := hid (HC3.out.keptC K1 c1 (by decide))
  replace HA2 := hid (HST.out.keptC HA2.out K1 c1 HO.out (.inl rfl))
  replace HK := hid (HK.out.trans (K1.mono (by simp)))
  clear c1 K1
  have M := Mem.start w7 [fb]
  have hcl5 := lt_of_row hr5
  have h3l := lt_of_row H3.out
  have hw5 := HK.out.size
  have hf5 := lt_of_row hrw
  have HOF := hid (own_frames (n := 1) hrw hsz hcap hc1)
  refine S_region (by kernel_rfl) ?_
  replace HOF := hid (own_kept HOF.out (Kept.refl [] _).drew)
  refine E_stage 0 8 [0, 1, 2, 3, 4, 5, 6, 7] (by kernel_rfl) M.drew ?_
  clear M
  simp only [List.filterMap_cons, List.filterMap_nil, List.getElem?_cons_zero, List.getElem?_cons_succ]
  ((with_reducible apply E_run); rfl; rfl; (intro w M; go_simp; (try go_ints); (try simp only [↓IntWalk.iteOmega]); (try with_reducible rfl)); simp only [Act.put, List.setIfInBounds_toArray, List.set_cons_zero, List.set_cons_succ])
  ((with_reducible apply E_run); rfl; rfl; (intro w M; go_simp; (try go_ints); (try simp only [↓IntWalk.iteOmega]); (try with_reducible rfl)); simp only [Act.put, List.setIfInBounds_toArray, List.set_cons_zero, List.set_cons_succ])
  ((with_reducible apply E_run); rfl; rfl; (intro w M; go_simp; (try go_ints); (try simp only [↓IntWalk.iteOmega]); (try with_reducible rfl)); simp only [Act.put, List.setIfInBounds_toArray, List.set_cons_zero, List.set_cons_succ])
  ((with_reducible apply E_run); rfl; rfl; (intro w M; go_simp; (try go_ints); (try simp only [↓IntWalk.iteOmega]); (try with_reducible rfl)); simp only [Act.put, List.setIfInBounds_toArray, List.set_cons_zero, List.set_cons_succ])
  ((with_reducible apply E_run); rfl; rfl; (intro w M; exact run_loadCell (M.kept.row hr5 hcf) rfl (show (chN EE wz (.slice (some ⟨fb, 0, none⟩) 1 cap) nilS)[9]? = some (.slice (some ⟨fb, 0, none⟩) 1 cap) by kernel_rfl) Salg.underlying115 rfl); simp only [Act.put, List.setIfInBounds_toArray, List.set_cons_zero, List.set_cons_succ])
  ((with_reducible apply E_run); rfl; rfl; (intro w M; exact run_loadAll (M.kept.row H3.out h3f) rfl Salg.underlying142 rfl (by kernel_rfl)); simp only [Act.put, List.setIfInBounds_toArray, List.set_cons_zero, List.set_cons_succ])
  refine E_buildIt (vs := (frG 3 sb gv vv cu iu (ad sf) (ad cl) (wrow5 a0 a1 a3 a6)).toArray) (s := 60) rfl rfl Salg.underlying115 size142 zero142s rfl (by decide) (by decide) ?_
  intro bn wa wb K1 hbn hbn2 K2 M
  replace HOF := hid (own_kept (own_kept HOF.out K1) K2)
  have hbw2 := M.kept.size
  clear K1 K2
  simp only [Act.put, List.setIfInBounds_toArray, List.set_cons_zero, List.set_cons_succ]
  refine E_appendY (base := 0) (n := 1) (m := 1) (s := 60) (bn := bn) (so := 0) (xs := fs.toList.take (1 * 60)) (news := (frG 3 sb gv vv cu iu (ad sf) (ad cl) (wrow5 a0 a1 a3 a6))) (cs := (frG 3 sb gv vv cu iu (ad sf) (ad cl) (wrow5 a0 a1 a3 a6)).toArray) info142 Salg.underlying115 rfl (by decide) (by decide) rfl rfl HOF.out (by decide) M.r0 rfl (cells_news _) (frG_one g1 g2 g3 g4 X0.out X1.out X2.out X3.out) (Nat.zero_le _) (by intro q hq; cases hq; exact Or.inl (List.mem_singleton.2 rfl)) (by intro p hp; cases hp) ?_
  clear M
  intro VV wc wd K1 M xO K2 xN
  have HOW := hid xO
  have HNEW : Hid (∀ b, VV.ownBlock = some b → b = fb ∨ w.heap.size ≤ b) := fun b hb => (xN b hb).imp (fun h => (Option.some.inj h).symm) (fun h => Nat.le_trans hw5 (Nat.le_trans hbw2 h))
  clear xO K1 K2 HOF xN
  simp only [Act.put, List.setIfInBounds_toArray, List.set_cons_zero, List.set_cons_succ]
  refine E_nil ?_
  intro w8 K1 M
  replace HOW := hid (own_kept HOW.out K1)
  clear K1
  refine S_seg 8 11 (by kernel_rfl) (by decide) ?_
  simp only [List.take_succ_cons, List.take_zero, List.drop_zero, List.drop_succ_cons, Nat.sub_zero, Nat.reduceSub]
  obtain ⟨fb', cap', cur, rfl, z2, z3, z4, z5, z6, z7⟩ := own_more HOW.out (by rw [List.length_take, Array.length_toList, hsz]; omega) (by rfl)
  have hnew := HNEW.out fb' rfl
  have K2' : Kept [fb] w7 w8 := M.kept
  have hcw := K2'.row hr5 hcf
  have HC2' := hid (HC3.out.keptC K2' hrw (by decide))
  replace HA2 := hid (HST.out.keptC HA2.out K2' hrw HNB.out (.inr rfl))
  replace HK := hid (HK.out.trans (K2'.mono (by simp)))
  have HZ3 := hid z3
  have HZ4 := hid z4
  have hf2 : fb' ∉ [c] := row_ne hcw z2 (by intro h; injection h with _ h _; exact absurd h (by decide))
  clear HOW K2' M HC3 z3 z4 HNEW
  go_wp2_with ((with_reducible apply W_stV (b := c) (o := 9) (v := .slice (some ⟨fb', 0, none⟩) 2 cap')); rfl; rfl; rfl; exact hcw; exact size115; exact Nat.le_of_ble_eq_true (by kernel_rfl); intro w9 K3 hr9)
  refine S_done ?_
  rw [show (chN EE wz (.slice (some ⟨fb, 0, none⟩) 1 cap) nilS).setIfInBounds 9 (.slice (some ⟨fb', 0, none⟩) 2 cap') = (chN EE wz (.slice (some ⟨fb', 0, none⟩) 2 cap') nilS) from by kernel_rfl] at hr9
  have HF : Hid (ChY w9 c EE (.slice (some ⟨fb', 0, none⟩) 2 cap') nilS la) := ⟨wz, hr9, HC2'.out.keptC K3 hcw (by decide)⟩
  replace HA2 := hid (HST.out.keptC HA2.out K3 hcw HO'.out (.inl rfl))
  have HK9 := hid (HK.out.trans (K3.mono (by simp)))
  have HZ2 := hid (K3.row z2 hf2)
  clear K3 hr9 hcw z2
  go_wp2_with fail
  go_end0
  rw [HEE.out] at HF
  refine ⟨_, fb', cap', cur, a0, a1, a3, a6, E.vz, rfl, HF.out, HZ2.out, hnew, fun k hk => ?_, HZ4.out, z5, z6, z7, X0.out, X1.out, X2.out, X3.out, HA2.out, HK9.out⟩
  rw [HZ3.out k (by omega), List.getElem?_take_of_lt (by omega)]
  simp

set_option maxHeartbeats 4000000 in
set_option maxRecDepth 100000 in
theorem enterY2d (c fb cap kd sf cl : Nat) (sb : Bool) (fs : Array Value) (la : List (List Nat)) (E : XEnv) (rt gv vv cu iu : Value) (Acc : World → Value → Prop) (w : World) (hC : ChY w c E (.slice (some ⟨fb, 0, none⟩) 2 cap) rt la) (hSt : Still Acc) (hAcc : Acc w E.vz) (hr : w.heap[fb]? = some (.cells fs 142 (0, 0))) (hnb : ∀ t l, Obj.cells fs 142 (0, 0) ≠ R8 t l) (hsz : fs.size = cap * 60) (hcap : cap ≤ maxLen) (hc1 : 2 ≤ cap) (g1 : gv.oneCell' = true) (g2 : vv.oneCell' = true) (g3 : cu.oneCell' = true) (g4 : iu.oneCell' = true) (hkd : kd = 3) (hcr : ∀ w, Calls Salg.prog 172 #[.int .u8 (kd : Int)] w fun e w' => e = .returned (.bool false) ∧ w' = w)
    (hCl : ∀ w', Kept [] w w' → Calls Salg.prog 171 #[.pointer (some ⟨c, 0, none⟩)] w' fun e w'' => ∃ a0 a1 a3 a6 : Value, e = .returned (.agg (wrow5 a0 a1 a3 a6).toArray) ∧ a0.oneCell' = true ∧ a1.oneCell' = true ∧ a3.oneCell' = true ∧ a6.oneCell' = true ∧ Kept [] w' w'') :
    Calls Salg.prog 98 #[.pointer (some ⟨c, 0, none⟩), .agg (frG kd sb gv vv cu iu (ad sf) (ad cl) (wrow5 nilS nilS nilS nilS)).toArray] w fun e w' => ∃ (r : Value) (fb' cap' : Nat) (cur : Array Value) (a0 a1 a3 a6 vz' : Value), e = .returned r ∧ ChY w' c { E with vz := vz' } (.slice (some ⟨fb', 0, none⟩) 3 cap') nilS la ∧ w'.heap[fb']? = some (.cells cur 142 (0, 0)) ∧ (fb' = fb ∨ w.heap.size ≤ fb') ∧ (∀ k, k < 120 → cur[k]? = fs[k]?) ∧ (∀ k, k < 60 → cur[120 + k]? = (frG kd sb gv vv cu iu (ad sf) (ad cl) (wrow5 a0 a1 a3 a6))[k]?) ∧ cur.size = cap' * 60 ∧ cap' ≤ maxLen ∧ 3 ≤ cap' ∧ a0.oneCell' = true ∧ a1.oneCell' = true ∧ a3.oneCell' = true ∧ a6.oneCell' = true ∧ Acc w' vz' ∧ Kept [c, fb] w w' := by
  have M := Mem.start w []
  have HCL := hid hCl
  have HCR := hid hcr
  have HC := hid hC
  have HAC := hid hAcc
  have HST := hid hSt
  subst hkd
  have hfl := lt_of_row hr
  have HNB := hid hnb
  have hfc : fb ∉ [c] := by
    obtain ⟨wz, c1, c2⟩ := hC
    exact row_ne c1 hr (by intro h; injection h with _ h _; exact absurd h (by decide))
  have hcl0 : c < w.heap.size := by
    obtain ⟨wz, c1, c2⟩ := hC
    exact lt_of_row c1
  clear hC hSt hAcc hCl hcr 
  go_enter Salg.func98, Salg.ntmps98
  go_wp2_with ((with_reducible apply L_box M); rfl; clear M; intro t3 w1 ht3 M; simp only [Act.put, List.setIfInBounds_toArray, List.set_cons_zero, List.set_cons_succ])
  refine (HCL.out _ M.kept).mono ?_
  rintro e w2 ⟨a0, a1, a3, a6, rfl, y0, y1, y2, y3, K1⟩
  have X0 := hid y0
  have X1 := hid y1
  have X2 := hid y2
  have X3 := hid y3
  replace M := M.call K1
  clear K1 y0 y1 y2 y3 HCL
  have HONE := hid (wrow5_oneL X0.out X1.out X2.out X3.out)
  have hc3 : c ≠ t3 := by omega
  go_wp2_with (first
    | ((with_reducible apply W_stP (b := t3) (o := 52) (n := 8) (v := .agg (wrow5 a0 a1 a3 a6).toArray) (rs := (frG 3 sb gv vv cu iu (ad sf) (ad cl) (wrow5 a0 a1 a3 a6)).toArray)); rfl; rfl; exact M.r0; exact size113; rfl; exact HONE.out; exact Nat.le_of_ble_eq_true (by kernel_rfl); kernel_rfl; intro w3 K1 hr3; replace M := Mem.callPut (L1 := []) M (Or.inr ht3) K1 hr3; clear K1 hr3; simp only [List.nil_append] at M)
    | ((with_reducible apply W_loadCell); rfl; exact M.r0; exact (show (frG 3 sb gv vv cu iu (ad sf) (ad cl) (wrow5 a0 a1 a3 a6)).toArray[0]? = some (.int .u8 (3 : Int)) by kernel_rfl); exact Salg.underlying5; rfl; simp only [Act.put, List.setIfInBounds_toArray, List.set_cons_zero, List.set_cons_succ]))
  refine (HCR.out _).mono ?_
  rintro e w4 ⟨rfl, hw⟩
  replace hw := hw.symm
  subst hw
  have HC2 : Hid (ChY _ c E _ rt la) := HC.out.kept M.kept
  have HA2 := hid (HST.out.kept HAC.out M.kept)
  clear HC HAC
  replace M : Mem w [c] _ _ := (M.into (o := (w3.heap[c]?).getD default) (by
    have := M.kept.size
    rw [Array.getElem?_eq_getElem (by omega)]
    rfl) (by simpa using hc3)).tail
  have H3 := hid M.r0
  obtain ⟨EE, hEE⟩ : ∃ EE : XEnv, EE = E := ⟨_, rfl⟩
  rw [← hEE] at HC2
  have HEE := hid hEE
  clear hEE
  obtain ⟨wz, c1, c2⟩ := HC2.out
  have h3c : t3 ∉ [c] := row_ne c1 H3.out (by intro h; injection h with _ h _; exact absurd h (by decide))
  have HO := hid (chy_nb EE wz (.slice (some ⟨fb, 0, none⟩) 2 cap) rt)
  have HO' := hid (chy_nb EE wz (.slice (some ⟨fb, 0, none⟩) 2 cap) nilS)
  have HC3 := hid c2
  have hcf : c ∉ [fb] := by
    intro h
    simp at h
    subst h
    simp at hfc
  have h3f : t3 ∉ [fb] := by
    simp
    omega
  have hrw := M.kept.row hr hfc
  have HK : Hid (Kept [c, fb] w w3) := M.kept.mono (by simp)
  clear c2 HC2 M hr
  go_wp2_with (first
    | ((with_reducible apply W_loadCell); rfl; exact H3.out; exact (show (frG 3 sb gv vv cu iu (ad sf) (ad cl) (wrow5 a0 a1 a3 a6)).toArray[0]? = some (.int .u8 (3 : Int)) by kernel_rfl); exact Salg.underlying5; rfl; simp only [Act.put, List.setIfInBounds_toArray, List.set_cons_zero, List.set_cons_succ])
    | ((with_reducible apply W_loadCellG); rfl; rfl; exact H3.out; exact (show (frG 3 sb gv vv cu iu (ad sf) (ad cl) (wrow5 a0 a1 a3 a6)).toArray[0]? = some (.int .u8 (3 : Int)) by kernel_rfl); exact Salg.underlying5; rfl; simp only [Act.put, List.setIfInBounds_toArray, List.set_cons_zero, List.set_cons_succ])
    | ((with_reducible apply W_stV (b := c) (o := 10) (v := nilS)); rfl; rfl; rfl; exact c1; exact size40; exact Nat.le_of_ble_eq_true (by kernel_rfl); intro w7 K1 hr5))
  rw [show (chN EE wz (.slice (some ⟨fb, 0, none⟩) 2 cap) rt).setIfInBounds 10 nilS = (chN EE wz (.slice (some ⟨fb, 0, none⟩) 2 cap) nilS) from by kernel_rfl] at hr5
  replace H3 := hid (K1.row H3.out h3c)
  replace hrw := K1.row hrw hfc
  replace HC3 := hid (HC3.out.keptC K1 c1 (by decide))
  replace HA2 := hid (HST.out.keptC HA2.out K1 c1 HO.out (.inl rfl))
  replace HK := hid (HK.out.trans (K1.mono (by simp)))
  clear c1 K1
  have M := Mem.start w7 [fb]
  have hcl5 := lt_of_row hr5
  have h3l := lt_of_row H3.out
  have hw5 := HK.out.size
  have hf5 := lt_of_row hrw
  have HOF := hid (own_frames (n := 2) hrw hsz hcap hc1)
  refine S_region (by kernel_rfl) ?_
  replace HOF := hid (own_kept HOF.out (Kept.refl [] _).drew)
  refine E_stage 0 8 [0, 1, 2, 3, 4, 5, 6, 7] (by kernel_rfl) M.drew ?_
  clear M
  simp only [List.filterMap_cons, List.filterMap_nil, List.getElem?_cons_zero, List.getElem?_cons_succ]
  ((with_reducible apply E_run); rfl; rfl; (intro w M; go_simp; (try go_ints); (try simp only [↓IntWalk.iteOmega]); (try with_reducible rfl)); simp only [Act.put, List.setIfInBounds_toArray, List.set_cons_zero, List.set_cons_succ])
  ((with_reducible apply E_run); rfl; rfl; (intro w M; go_simp; (try go_ints); (try simp only [↓IntWalk.iteOmega]); (try with_reducible rfl)); simp only [Act.put, List.setIfInBounds_toArray, List.set_cons_zero, List.set_cons_succ])
  ((with_reducible apply E_run); rfl; rfl; (intro w M; go_simp; (try go_ints); (try simp only [↓IntWalk.iteOmega]); (try with_reducible rfl)); simp only [Act.put, List.setIfInBounds_toArray, List.set_cons_zero, List.set_cons_succ])
  ((with_reducible apply E_run); rfl; rfl; (intro w M; go_simp; (try go_ints); (try simp only [↓IntWalk.iteOmega]); (try with_reducible rfl)); simp only [Act.put, List.setIfInBounds_toArray, List.set_cons_zero, List.set_cons_succ])
  ((with_reducible apply E_run); rfl; rfl; (intro w M; exact run_loadCell (M.kept.row hr5 hcf) rfl (show (chN EE wz (.slice (some ⟨fb, 0, none⟩) 2 cap) nilS)[9]? = some (.slice (some ⟨fb, 0, none⟩) 2 cap) by kernel_rfl) Salg.underlying115 rfl); simp only [Act.put, List.setIfInBounds_toArray, List.set_cons_zero, List.set_cons_succ])
  ((with_reducible apply E_run); rfl; rfl; (intro w M; exact run_loadAll (M.kept.row H3.out h3f) rfl Salg.underlying142 rfl (by kernel_rfl)); simp only [Act.put, List.setIfInBounds_toArray, List.set_cons_zero, List.set_cons_succ])
  refine E_buildIt (vs := (frG 3 sb gv vv cu iu (ad sf) (ad cl) (wrow5 a0 a1 a3 a6)).toArray) (s := 60) rfl rfl Salg.underlying115 size142 zero142s rfl (by decide) (by decide) ?_
  intro bn wa wb K1 hbn hbn2 K2 M
  replace HOF := hid (own_kept (own_kept HOF.out K1) K2)
  have hbw2 := M.kept.size
  clear K1 K2
  simp only [Act.put, List.setIfInBounds_toArray, List.set_cons_zero, List.set_cons_succ]
  refine E_appendY (base := 0) (n := 2) (m := 1) (s := 60) (bn := bn) (so := 0) (xs := fs.toList.take (2 * 60)) (news := (frG 3 sb gv vv cu iu (ad sf) (ad cl) (wrow5 a0 a1 a3 a6))) (cs := (frG 3 sb gv vv cu iu (ad sf) (ad cl) (wrow5 a0 a1 a3 a6)).toArray) info142 Salg.underlying115 rfl (by decide) (by decide) rfl rfl HOF.out (by decide) M.r0 rfl (cells_news _) (frG_one g1 g2 g3 g4 X0.out X1.out X2.out X3.out) (Nat.zero_le _) (by intro q hq; cases hq; exact Or.inl (List.mem_singleton.2 rfl)) (by intro p hp; cases hp) ?_
  clear M
  intro VV wc wd K1 M xO K2 xN
  have HOW := hid xO
  have HNEW : Hid (∀ b, VV.ownBlock = some b → b = fb ∨ w.heap.size ≤ b) := fun b hb => (xN b hb).imp (fun h => (Option.some.inj h).symm) (fun h => Nat.le_trans hw5 (Nat.le_trans hbw2 h))
  clear xO K1 K2 HOF xN
  simp only [Act.put, List.setIfInBounds_toArray, List.set_cons_zero, List.set_cons_succ]
  refine E_nil ?_
  intro w8 K1 M
  replace HOW := hid (own_kept HOW.out K1)
  clear K1
  refine S_seg 8 11 (by kernel_rfl) (by decide) ?_
  simp only [List.take_succ_cons, List.take_zero, List.drop_zero, List.drop_succ_cons, Nat.sub_zero, Nat.reduceSub]
  obtain ⟨fb', cap', cur, rfl, z2, z3, z4, z5, z6, z7⟩ := own_more HOW.out (by rw [List.length_take, Array.length_toList, hsz]; omega) (by rfl)
  have hnew := HNEW.out fb' rfl
  have K2' : Kept [fb] w7 w8 := M.kept
  have hcw := K2'.row hr5 hcf
  have HC2' := hid (HC3.out.keptC K2' hrw (by decide))
  replace HA2 := hid (HST.out.keptC HA2.out K2' hrw HNB.out (.inr rfl))
  replace HK := hid (HK.out.trans (K2'.mono (by simp)))
  have HZ3 := hid z3
  have HZ4 := hid z4
  have hf2 : fb' ∉ [c] := row_ne hcw z2 (by intro h; injection h with _ h _; exact absurd h (by decide))
  clear HOW K2' M HC3 z3 z4 HNEW
  go_wp2_with ((with_reducible apply W_stV (b := c) (o := 9) (v := .slice (some ⟨fb', 0, none⟩) 3 cap')); rfl; rfl; rfl; exact hcw; exact size115; exact Nat.le_of_ble_eq_true (by kernel_rfl); intro w9 K3 hr9)
  refine S_done ?_
  rw [show (chN EE wz (.slice (some ⟨fb, 0, none⟩) 2 cap) nilS).setIfInBounds 9 (.slice (some ⟨fb', 0, none⟩) 3 cap') = (chN EE wz (.slice (some ⟨fb', 0, none⟩) 3 cap') nilS) from by kernel_rfl] at hr9
  have HF : Hid (ChY w9 c EE (.slice (some ⟨fb', 0, none⟩) 3 cap') nilS la) := ⟨wz, hr9, HC2'.out.keptC K3 hcw (by decide)⟩
  replace HA2 := hid (HST.out.keptC HA2.out K3 hcw HO'.out (.inl rfl))
  have HK9 := hid (HK.out.trans (K3.mono (by simp)))
  have HZ2 := hid (K3.row z2 hf2)
  clear K3 hr9 hcw z2
  go_wp2_with fail
  go_end0
  rw [HEE.out] at HF
  refine ⟨_, fb', cap', cur, a0, a1, a3, a6, E.vz, rfl, HF.out, HZ2.out, hnew, fun k hk => ?_, HZ4.out, z5, z6, z7, X0.out, X1.out, X2.out, X3.out, HA2.out, HK9.out⟩
  rw [HZ3.out k (by omega), List.getElem?_take_of_lt (by omega)]
  simp
end Go.Proofs.YgcsalGreat

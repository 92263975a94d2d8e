/-
  The walk of (*yp.State).enter: a callee's frame (DELEGATECALL).
-/
import Derived.Test.YgcsalGreatSl25
import Derived.Test.YgcsalGreatSl12
import Derived.Test.YgcsalGreatSl13
set_option linter.unusedSimpArgs false
set_option linter.unusedVariables false
namespace Go.Own
section
variable {w : World}
theorem Mem.own' {w0 w' : World} {X : List Nat} {L : List (Nat × Obj)} {v : Value} (M : Mem w0 X L w) (K : Kept v.ownBlock.toList w w') (hb : ∀ q, v.ownBlock = some q → q ∈ X ∨ w0.heap.size ≤ q) (hL : ∀ p ∈ L, v.ownBlock ≠ some p.1) : Mem w0 X L w' := by
  refine ⟨⟨by rw [K.os, M.kept.os], by rw [K.tape, M.kept.tape], by rw [K.output, M.kept.output], Nat.le_trans M.kept.size K.size, fun q hq hx => ?_⟩, fun p hp => ?_, M.apart⟩
  · have h1 := M.kept.size
    rw [K.block q (by omega) (fun e => by
      have : v.ownBlock = some q := by simpa using e
      rcases hb q this with h | h
      · exact hx h
      · omega)]
    exact M.kept.block q hq hx
  · have hlt := M.lt hp
    rw [K.block p.1 hlt (fun e => hL p hp (by simpa using e))]
    exact M.rows p hp
end
section
variable {P : Program} {w0 : World} {X : List Nat} {L : List (Nat × Obj)} {C : World → World → Prop} {A : Array Oper} {F : Act → World → Prop} {a : Act} {w : World} {rest : List Oper}
theorem E_appendX {d : Tmp} {s1 s2 : Operand} {t e ty : TypeId} {pos : String} {after : Array Edge} {base n m s by1 bn so cap : Nat} {z v : Value} {xs news : List Value} {cs : Array Value} {tn : TypeId} {fr : Nat × Nat}
    (hinfo : (P.info? e).map (fun i => (i.zero, i.size, i.bytes)) = some (some z, s, by1)) (hu : P.underlying t = some (.slice e)) (hzs : z.cells.size = s) (h0 : 0 < s) (hby : by1 ≤ 100000)
    (hs1 : a.eval s1 = v) (hs2 : a.eval s2 = .slice (some ⟨bn, so, none⟩) m cap) (hown : w.ownsRow base e s v n xs) (hn : n + m ≤ 1000000) (hr : w.heap[bn]? = some (.cells cs tn fr)) (hl : news.length = m * s) (hc : ∀ (j : Nat) (u : Value), news[j]? = some u → cs[so + j]? = some u) (h1 : ∀ u ∈ news, u.oneCell' = true)
    (hbw : base ≤ w.heap.size) (hb : ∀ q, v.ownBlock = some q → q ∈ X ∨ w0.heap.size ≤ q) (hL : ∀ p ∈ L, v.ownBlock ≠ some p.1)
    (k : ∀ v' w1 w', Kept [] w w1 → Mem w0 X L w' → w'.ownsRow base e s v' (n + m) (xs ++ news) → Kept v.ownBlock.toList w1 w' → EV P w0 X L (fun _ _ => True) A F rest (a.put (some d) v') w') :
    EV P w0 X L (fun _ _ => True) A F ({ dst := some d, op := .call { callee := .builtin .append, args := #[s1, s2], argTypes := #[t, t] }, type := ty, pos := pos, after := after, guard := none } :: rest) a w := by
  refine E_eff (by simp [Region.wanted]) rfl fun w1 K M => ?_
  obtain ⟨v', w', h2, h3, h4⟩ := run_appendIt (P := P) (a := a) (w := w1) (d := some d) (ty := ty) (pos := pos) (after := after) (gg := none) hinfo hu hzs h0 hby hs1 hs2 (own_kept hown K) hn (K.row hr (by simp)) hl hc h1 (Nat.le_trans hbw K.size)
  have hM := M.own' h4 hb hL
  exact ⟨v', w', h2, trivial, hM, k v' w1 w' K hM h3 h4⟩
end
/-- A callee's frame. -/
def frD (gv vv cu iu : Value) (sv : List Value) : List Value := [.int .u8 3, .int .u8 0, .bool false, nilS, gv, vv, nilS, nilS, nilS, nilS, cu, iu] ++ ((ad 1).map n8 ++ ((ad 240).map n8 ++ sv))
theorem frD_one4 {gv vv cu iu a0 a1 a2 a3 : Value} (h1 : gv.oneCell' = true) (h2 : vv.oneCell' = true) (h3 : cu.oneCell' = true) (h4 : iu.oneCell' = true) (h5 : a0.oneCell' = true) (h6 : a1.oneCell' = true) (h8 : a2.oneCell' = true) (h7 : a3.oneCell' = true) : ∀ u ∈ frD gv vv cu iu (wrow4 a0 a1 a2 a3), u.oneCell' = true := by
  apply one_list
  have e : ((frD gv vv cu iu (wrow4 a0 a1 a2 a3)).all fun u => u.oneCell') = (gv.oneCell' && (vv.oneCell' && (cu.oneCell' && (iu.oneCell' && (a0.oneCell' && (a1.oneCell' && (a2.oneCell' && (a3.oneCell' && true)))))))) := by kernel_rfl
  rw [e, h1, h2, h3, h4, h5, h6, h8, h7]
  rfl
/-- Two frames in one row. -/
theorem own_two {w : World} {base : Nat} {v : Value} {xs ys : List Value} (h : w.ownsRow base 142 60 v 2 (xs ++ ys)) (hx : xs.length = 60) (hy : ys.length = 60) : ∃ g cap cur, v = .slice (some ⟨g, 0, none⟩) 2 cap ∧ base ≤ g ∧ w.heap[g]? = some (.cells cur 142 (0, 0)) ∧ (∀ k, k < 60 → cur[k]? = xs[k]?) ∧ (∀ k, k < 60 → cur[60 + k]? = ys[k]?) ∧ cur.size = cap * 60 ∧ cap ≤ maxLen ∧ 2 ≤ cap := by
  rcases h.2 with ⟨_, h1⟩ | ⟨g, cap, cur, h1, h2, h3, h4, h5, h6, h7⟩
  · omega
  · refine ⟨g, cap, cur, h1, h2, h3, fun k hk => ?_, fun k hk => ?_, h6, h5, h4⟩
    · have e : (cur.toList.take (2 * 60))[k]? = (xs ++ ys)[k]? := by rw [h7]
      rw [List.getElem?_take_of_lt (by omega), List.getElem?_append_left (by omega)] at e
      simpa using e
    · have e : (cur.toList.take (2 * 60))[60 + k]? = (xs ++ ys)[60 + k]? := by rw [h7]
      rw [List.getElem?_take_of_lt (by omega), List.getElem?_append_right (by omega), hx, Nat.add_sub_cancel_left] at e
      simpa using e
theorem own_one_frame {w : World} {base fb cap : Nat} {cur : Array Value} (hb : base ≤ fb) (h : w.heap[fb]? = some (.cells cur 142 (0, 0))) (hs : cur.size = cap * 60) (hc : cap ≤ maxLen) (h1 : 1 ≤ cap) : w.ownsRow base 142 60 (.slice (some ⟨fb, 0, none⟩) 1 cap) 1 (cur.toList.take 60) :=
  ⟨by simp [hs]; omega, .inr ⟨fb, cap, cur, rfl, hb, h, h1, hc, hs, rfl⟩⟩
end Go.Own
namespace Go.Proofs.YgcsalGreat
open Go.RowKit Go.Own

set_option maxHeartbeats 4000000 in
set_option maxRecDepth 100000 in
theorem creates_three (w : World) : Calls Salg.prog 172 #[.int .u8 3] w fun e w' => e = .returned (.bool false) ∧ w' = w := by
  go_enter Salg.func172, Salg.ntmps172
  go_wp2_with fail
  go_ret
  exact ⟨rfl, rfl⟩
theorem clone_C (c K : Nat) (fr : Value) (la : List (List Nat)) (so : Option (Nat × Nat)) (R : Nat) (ds1 ds2 : List Nat) (w : World) (hC : ChainV w c fr la (some K) so R ds1 ds2) (hso : so = none ∨ ∃ V, so = some (K, V)) (hl0 : 0 < la.length) (hl : la.length ≤ 20) :
    Calls Salg.prog 171 #[.pointer (some ⟨c, 0, none⟩)] w fun e w' => ∃ a0 a1 a2 a3 : Value, e = .returned (.agg (wrow4 a0 a1 a2 a3).toArray) ∧ WorldS w' a0 a1 a2 a3 la (some K) so R ds1 ds2 ∧ Kept [] w w' := by
  obtain ⟨vz, wz, mv, rv, lim, gv0, pr, tv, c1, c2, c3, c4, c5, c6⟩ := hC
  obtain ⟨nv, bv, cu, sl, nv2, bv2, cu2, nv3, bv3, w1, w2, w3, w4, w5, w6, w7, w8, w9, wa, wb, wc, wd⟩ := c2
  rcases hso with rfl | ⟨V, rfl⟩
  · exact clone3_nm c 119 _ vz wz mv rv nv bv cu sl nv2 bv2 cu2 nv3 bv3 1 0 1 0 1 _ R K 0 ds1 ds2 la w c1 (by kernel_rfl) (by kernel_rfl) (by kernel_rfl) (by kernel_rfl) (by kernel_rfl) (by kernel_rfl) (by kernel_rfl) (by kernel_rfl) w1 w2 hl0 hl w5 w3 w4 w6 w7 w8 w9 wa wb wc wd
  · exact clone3_sm c 119 _ vz wz mv rv nv bv cu sl nv2 bv2 cu2 nv3 bv3 1 0 1 0 1 _ R K V ds1 ds2 la w c1 (by kernel_rfl) (by kernel_rfl) (by kernel_rfl) (by kernel_rfl) (by kernel_rfl) (by kernel_rfl) (by kernel_rfl) (by kernel_rfl) w1 w2 hl0 hl w5 w3 w4 w6 w7 w8 w9 wa wb wc wd

set_option maxHeartbeats 4000000 in
set_option maxRecDepth 100000 in
theorem enter_D (c K base fb cap : Nat) (fs : Array Value) (la : List (List Nat)) (so : Option (Nat × Nat)) (R : Nat) (ds1 ds2 : List Nat) (gv vv cu iu : Value) (w : World) (hC : ChainV w c (.slice (some ⟨fb, 0, none⟩) 1 cap) la (some K) so R ds1 ds2) (hso : so = none ∨ ∃ V, so = some (K, V)) (hl0 : 0 < la.length) (hl : la.length ≤ 20) (hr : w.heap[fb]? = some (.cells fs 142 (0, 0))) (hnb : ∀ t l, Obj.cells fs 142 (0, 0) ≠ R8 t l) (hsz : fs.size = cap * 60) (hcap : cap ≤ maxLen) (hc1 : 1 ≤ cap) (hbase : base ≤ fb) (g1 : gv.oneCell' = true) (g2 : vv.oneCell' = true) (g3 : cu.oneCell' = true) (g4 : iu.oneCell' = true) :
    Calls Salg.prog 98 #[.pointer (some ⟨c, 0, none⟩), .agg (frD gv vv cu iu (wrow nilS nilS nilS)).toArray] w fun e w' => ∃ (r : Value) (fb' cap' : Nat) (cur : Array Value) (a0 a1 a2 a3 : Value), e = .returned r ∧ ChainV w' c (.slice (some ⟨fb', 0, none⟩) 2 cap') la (some K) so R ds1 ds2 ∧ w'.heap[fb']? = some (.cells cur 142 (0, 0)) ∧ base ≤ fb' ∧ (∀ k, k < 60 → cur[k]? = fs[k]?) ∧ (∀ k, k < 60 → cur[60 + k]? = (frD gv vv cu iu (wrow4 a0 a1 a2 a3))[k]?) ∧ cur.size = cap' * 60 ∧ cap' ≤ maxLen ∧ 2 ≤ cap' ∧ WorldS w' a0 a1 a2 a3 la (some K) so R ds1 ds2 ∧ (∀ v n, NumV w v n → NumV w' v n) ∧ (∀ v ds, NatV w v ds → NatV w' v ds) ∧ (∀ v xs, RowV w 89 v xs → RowV w' 89 v xs) ∧ Kept [c, fb] w w' := by
  have M := Mem.start w []
  have HCL := hid (fun w' (K1 : Kept [] w w') => clone_C c K _ la so R ds1 ds2 w' (hC.kept K1) hso hl0 hl)
  have hfc := hC.frame hr
  have hfl := lt_of_row hr
  have HC := hid hC
  have HNB := hid hnb
  clear hC
  go_enter Salg.func98, Salg.ntmps98
  go_wp2_with ((with_reducible apply L_box M); rfl; clear M; intro t3 w1 ht3 M; simp only [Act.put, List.setIfInBounds_toArray, List.set_cons_zero, List.set_cons_succ])
  refine (HCL.out _ M.kept).mono ?_
  rintro e w2 ⟨a0, a1, a2, a3, rfl, xWW, K1⟩
  obtain ⟨y0, y1, y2, y3⟩ := WorldW.one xWW
  have X0 := hid y0
  have X1 := hid y1
  have X2 := hid y2
  have X3 := hid y3
  have HWS := hid xWW
  replace M := M.call K1
  clear K1 xWW y0 y1 y2 y3 HCL
  have HONE := hid (wrow4_oneL X0.out X1.out X2.out X3.out)
  have HNB3 := hid (not_bytes_at (cs := (frD gv vv cu iu (wrow nilS nilS nilS)).toArray) (tc := 142) (i := 3) (p := none) (n := 0) (m := 0) (by kernel_rfl))
  go_wp2_with (first
    | ((with_reducible apply W_stP (b := t3) (o := 52) (n := 8) (v := .agg (wrow4 a0 a1 a2 a3).toArray) (rs := (frD gv vv cu iu (wrow4 a0 a1 a2 a3)).toArray)); rfl; rfl; exact M.r0; exact size113; rfl; exact HONE.out; exact Nat.le_of_ble_eq_true (by kernel_rfl); kernel_rfl; intro w3 K1 hr3; replace HWS := hid (WorldW.keptC HWS.out K1 M.r0 HNB3.out wtype142); replace M := Mem.callPut (L1 := []) M (Or.inr ht3) K1 hr3; clear K1 hr3; simp only [List.nil_append] at M)
    | ((with_reducible apply W_loadCell); rfl; exact M.r0; exact (show (frD gv vv cu iu (wrow4 a0 a1 a2 a3)).toArray[0]? = some (.int .u8 3) by kernel_rfl); exact Salg.underlying5; rfl; simp only [Act.put, List.setIfInBounds_toArray, List.set_cons_zero, List.set_cons_succ]))
  refine (creates_three _).mono ?_
  rintro e w4 ⟨rfl, hw⟩
  replace hw := hw.symm
  subst hw
  have H3 := hid M.r0
  have HCW := hid (HC.out.kept M.kept)
  obtain ⟨vz, wz, mv, rv, lim, gv0, pr, tv, c1, c2, c3, c4, c5, c6⟩ := HCW.out
  have h3c : t3 ∉ [c] := row_ne c1 H3.out (by rintro h; cases h)
  have hcf : c ∉ [fb] := by
    intro h
    simp at h
    subst h
    simp at hfc
  have h3f : t3 ∉ [fb] := by
    simp
    omega
  have HO := hid (chR_nb vz wz mv rv (.slice (some ⟨fb, 0, none⟩) 1 cap) lim gv0 pr tv)
  have HC2 := hid c2
  have HC3 := hid c3
  have HC4 := hid c4
  have HC5 := hid c5
  have hrw := M.kept.row hr (by simp)
  have HT1 : Hid (∀ v n, NumV w v n → NumV w3 v n) := fun v n h => h.kept M.kept
  have HT2 : Hid (∀ v ds, NatV w v ds → NatV w3 v ds) := fun v n h => h.kept M.kept
  have HT3 : Hid (∀ v xs, RowV w 89 v xs → RowV w3 89 v xs) := fun v n h => h.kept M.kept
  have HK : Hid (Kept [c, fb] w w3) := M.kept.mono (by simp)
  have hbw : base ≤ w3.heap.size := by have := lt_of_row hrw; omega
  clear c2 c3 c4 c5 HCW M HC hr
  go_wp2_with (first
    | ((with_reducible apply W_loadCell); rfl; exact H3.out; exact (show (frD gv vv cu iu (wrow4 a0 a1 a2 a3)).toArray[0]? = some (.int .u8 3) by kernel_rfl); exact Salg.underlying5; rfl; simp only [Act.put, List.setIfInBounds_toArray, List.set_cons_zero, List.set_cons_succ])
    | ((with_reducible apply W_loadCellG); rfl; rfl; exact H3.out; exact (show (frD gv vv cu iu (wrow4 a0 a1 a2 a3)).toArray[0]? = some (.int .u8 3) by kernel_rfl); exact Salg.underlying5; rfl; simp only [Act.put, List.setIfInBounds_toArray, List.set_cons_zero, List.set_cons_succ])
    | ((with_reducible apply W_stV (b := c) (o := 10) (v := nilS)); rfl; rfl; rfl; exact c1; exact size40; exact Nat.le_of_ble_eq_true (by kernel_rfl); intro w5 K1 hr5))
  rw [show (chR vz wz mv rv (.slice (some ⟨fb, 0, none⟩) 1 cap) lim gv0 pr tv).setIfInBounds 10 nilS = chR vz wz mv rv (.slice (some ⟨fb, 0, none⟩) 1 cap) lim gv0 pr tv from by kernel_rfl] at hr5
  replace H3 := hid (K1.row H3.out h3c)
  replace hrw := K1.row hrw hfc
  replace HC2 := hid (WorldW.keptC HC2.out K1 c1 HO.out wtype119)
  replace HWS := hid (WorldW.keptC HWS.out K1 c1 HO.out wtype119)
  replace HC3 := hid (HC3.out.keptC K1 c1 HO.out)
  replace HC4 := hid (HC4.out.keptC K1 c1 HO.out)
  replace HC5 := hid (HC5.out.keptC K1 c1 HO.out)
  have HS1 : Hid (∀ v n, NumV w v n → NumV w5 v n) := fun v n h => (HT1.out v n h).keptC K1 c1 HO.out
  have HS2 : Hid (∀ v ds, NatV w v ds → NatV w5 v ds) := fun v n h => (HT2.out v n h).keptC K1 c1 HO.out
  have HS3 : Hid (∀ v xs, RowV w 89 v xs → RowV w5 89 v xs) := fun v n h => (HT3.out v n h).keptC K1 c1 (by decide)
  replace HK := hid (HK.out.trans (K1.mono (by simp)))
  replace hbw := Nat.le_trans hbw K1.size
  clear HT1 HT2 HT3 c1 K1
  have M := Mem.start w5 [fb]
  have hf5 := lt_of_row hrw
  have HOF := hid (own_one_frame hbase hrw hsz hcap hc1)
  refine S_region (by kernel_rfl) ?_
  replace HOF := hid (own_kept HOF.out (Kept.refl [] _).drew)
  refine E_stage 0 8 [0, 1, 2, 3, 4, 5, 6, 7] (by kernel_rfl) M.drew ?_
  clear M
  simp only [List.filterMap_cons, List.filterMap_nil, List.getElem?_cons_zero, List.getElem?_cons_succ]
  ((with_reducible apply E_run); rfl; rfl; (intro w M; go_simp; (try go_ints); (try simp only [↓IntWalk.iteOmega]); (try with_reducible rfl)); simp only [Act.put, List.setIfInBounds_toArray, List.set_cons_zero, List.set_cons_succ])
  ((with_reducible apply E_run); rfl; rfl; (intro w M; go_simp; (try go_ints); (try simp only [↓IntWalk.iteOmega]); (try with_reducible rfl)); simp only [Act.put, List.setIfInBounds_toArray, List.set_cons_zero, List.set_cons_succ])
  ((with_reducible apply E_run); rfl; rfl; (intro w M; go_simp; (try go_ints); (try simp only [↓IntWalk.iteOmega]); (try with_reducible rfl)); simp only [Act.put, List.setIfInBounds_toArray, List.set_cons_zero, List.set_cons_succ])
  ((with_reducible apply E_run); rfl; rfl; (intro w M; go_simp; (try go_ints); (try simp only [↓IntWalk.iteOmega]); (try with_reducible rfl)); simp only [Act.put, List.setIfInBounds_toArray, List.set_cons_zero, List.set_cons_succ])
  ((with_reducible apply E_run); rfl; rfl; (intro w M; exact run_loadCell (M.kept.row hr5 hcf) rfl (show (chR vz wz mv rv (.slice (some ⟨fb, 0, none⟩) 1 cap) lim gv0 pr tv)[9]? = some (.slice (some ⟨fb, 0, none⟩) 1 cap) by kernel_rfl) Salg.underlying115 rfl); simp only [Act.put, List.setIfInBounds_toArray, List.set_cons_zero, List.set_cons_succ])
  ((with_reducible apply E_run); rfl; rfl; (intro w M; exact run_loadAll (M.kept.row H3.out h3f) rfl Salg.underlying142 rfl (by kernel_rfl)); simp only [Act.put, List.setIfInBounds_toArray, List.set_cons_zero, List.set_cons_succ])
  refine E_buildIt (vs := (frD gv vv cu iu (wrow4 a0 a1 a2 a3)).toArray) (s := 60) rfl rfl Salg.underlying115 size142 zero142s rfl (by decide) (by decide) ?_
  intro bn wa wb K1 hbn hbn2 K2 M
  replace HOF := hid (own_kept (own_kept HOF.out K1) K2)
  have hbw2 := Nat.le_trans hbw M.kept.size
  clear K1 K2
  simp only [Act.put, List.setIfInBounds_toArray, List.set_cons_zero, List.set_cons_succ]
  refine E_appendX (base := base) (n := 1) (m := 1) (s := 60) (bn := bn) (so := 0) (xs := fs.toList.take 60) (news := (frD gv vv cu iu (wrow4 a0 a1 a2 a3))) (cs := (frD gv vv cu iu (wrow4 a0 a1 a2 a3)).toArray) info142 Salg.underlying115 rfl (by decide) (by decide) rfl rfl HOF.out (by decide) M.r0 rfl (cells_news _) (frD_one4 g1 g2 g3 g4 X0.out X1.out X2.out X3.out) hbw2 (by intro q hq; cases hq; exact Or.inl (List.mem_singleton.2 rfl)) (by intro p hp; cases hp) ?_
  clear M
  intro VV wc wd K1 M xO K2
  have HOW := hid xO
  clear xO K1 K2 HOF
  simp only [Act.put, List.setIfInBounds_toArray, List.set_cons_zero, List.set_cons_succ]
  refine E_nil ?_
  intro w8 K1 M
  replace HOW := hid (own_kept HOW.out K1)
  clear K1
  refine S_seg 8 11 (by kernel_rfl) (by decide) ?_
  simp only [List.take_succ_cons, List.take_zero, List.drop_zero, List.drop_succ_cons, Nat.sub_zero, Nat.reduceSub]
  obtain ⟨fb', cap', cur, rfl, z1, z2, z3, z4, z5, z6, z7⟩ := own_two HOW.out (by simp [hsz]; omega) (by rfl)
  have K2' : Kept [fb] w5 w8 := M.kept
  have hfw := hrw
  have hcw := K2'.row hr5 hcf
  have HC2' := hid (WorldW.keptC HC2.out K2' hfw HNB.out wtype142)
  replace HWS := hid (WorldW.keptC HWS.out K2' hfw HNB.out wtype142)
  replace HC3 := hid (HC3.out.keptC K2' hfw HNB.out)
  replace HC4 := hid (HC4.out.keptC K2' hfw HNB.out)
  replace HC5 := hid (HC5.out.keptC K2' hfw HNB.out)
  have HT1 : Hid (∀ v n, NumV w v n → NumV w8 v n) := fun v n h => (HS1.out v n h).keptC K2' hfw HNB.out
  have HT2 : Hid (∀ v ds, NatV w v ds → NatV w8 v ds) := fun v n h => (HS2.out v n h).keptC K2' hfw HNB.out
  have HT3 : Hid (∀ v xs, RowV w 89 v xs → RowV w8 89 v xs) := fun v n h => (HS3.out v n h).keptC K2' hfw (by decide)
  replace HK := hid (HK.out.trans (K2'.mono (by simp)))
  have HZ3 := hid z3
  have HZ4 := hid z4
  have hf2 : fb' ∉ [c] := row_ne hcw z2 (by rintro h; cases h)
  clear HOW K2' M HS1 HS2 HS3 HC2 z3 z4 hfw
  go_wp2_with ((with_reducible apply W_stV (b := c) (o := 9) (v := .slice (some ⟨fb', 0, none⟩) 2 cap')); rfl; rfl; rfl; exact hcw; exact size115; exact Nat.le_of_ble_eq_true (by kernel_rfl); intro w9 K3 hr9)
  refine S_done ?_
  rw [show (chR vz wz mv rv (.slice (some ⟨fb, 0, none⟩) 1 cap) lim gv0 pr tv).setIfInBounds 9 (.slice (some ⟨fb', 0, none⟩) 2 cap') = chR vz wz mv rv (.slice (some ⟨fb', 0, none⟩) 2 cap') lim gv0 pr tv from by kernel_rfl] at hr9
  have HF : Hid (ChainV w9 c (.slice (some ⟨fb', 0, none⟩) 2 cap') la (some K) so R ds1 ds2) := ⟨vz, wz, mv, rv, lim, gv0, pr, tv, hr9, WorldW.keptC HC2'.out K3 hcw HO.out wtype119, HC3.out.keptC K3 hcw HO.out, HC4.out.keptC K3 hcw HO.out, HC5.out.keptC K3 hcw HO.out, c6⟩
  have HWS2 := hid (WorldW.keptC HWS.out K3 hcw HO.out wtype119)
  have HU1 : Hid (∀ v n, NumV w v n → NumV w9 v n) := fun v n h => (HT1.out v n h).keptC K3 hcw HO.out
  have HU2 : Hid (∀ v ds, NatV w v ds → NatV w9 v ds) := fun v n h => (HT2.out v n h).keptC K3 hcw HO.out
  have HU3 : Hid (∀ v xs, RowV w 89 v xs → RowV w9 89 v xs) := fun v n h => (HT3.out v n h).keptC K3 hcw (by decide)
  have HK9 := hid (HK.out.trans (K3.mono (by simp)))
  have HZ2 := hid (K3.row z2 hf2)
  clear K3 hr9 hcw z2
  go_wp2_with fail
  go_end0
  refine ⟨_, fb', cap', cur, a0, a1, a2, a3, rfl, HF.out, HZ2.out, z1, fun k hk => ?_, HZ4.out, z5, z6, z7, HWS2.out, HU1.out, HU2.out, HU3.out, HK9.out⟩
  rw [HZ3.out k hk, List.getElem?_take_of_lt hk]
  simp
end Go.Proofs.YgcsalGreat

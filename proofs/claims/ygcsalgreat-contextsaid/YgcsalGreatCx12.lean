/-
  The walk of (*yp.State).enterCall in a run of Context.
-/
import Derived.Test.YgcsalGreatCx11
import Derived.Test.YgcsalGreatCp20
set_option linter.unusedSimpArgs false
set_option linter.unusedVariables false
namespace Go.Own
open Go.Proofs.YgcsalGreat
abbrev wnil : List Value := wrow5 nilS nilS nilS nilS
theorem frG_nb (kd : Nat) (sb : Bool) (gv vv cu iu : Value) (s l : List Nat) (sv : List Value) : ∀ t l', Obj.cells (frG kd sb gv vv cu iu s l sv).toArray 142 (0, 0) ≠ R8 t l' := not_bytes_at (i := 3) (p := none) (n := 0) (m := 0) (by rfl)
theorem frG_oneN {kd s t : Nat} {sb : Bool} {gv vv cu iu : Value} (h1 : gv.oneCell' = true) (h2 : vv.oneCell' = true) (h3 : cu.oneCell' = true) (h4 : iu.oneCell' = true) : ∀ u ∈ (frG kd sb gv vv cu iu (ad s) (ad t) wnil).toArray.toList, u.oneCell' = true := frG_one h1 h2 h3 h4 rfl rfl rfl rfl
theorem ChY.keptK {w w' : World} {c b : Nat} {E : XEnv} {fr rt : Value} {la : List (List Nat)} {cs : Array Value} (h : ChY w c E fr rt la) (k : Kept [b] w w') (hr : w.heap[b]? = some (.cells cs 142 (0, 0))) : ChY w' c E fr rt la := h.frame k hr
end Go.Own
namespace Go.Proofs.YgcsalGreat
open Go.RowKit Go.Own
theorem size4x : (Salg.prog.info? 4).map (·.size) = some 1 := by kernel_rfl
/-- An account that can be called. -/
structure TargetOK (t : Nat) : Prop where
  lt : t < 256
  adr : ∀ v w, NumV w v t → Calls Salg.prog 191 #[v] w fun e w' => e = .returned (A8 (ad t)) ∧ Kept [] w w'
  nat : ∀ w, Calls Salg.prog 95 #[A8 (ad t)] w fun e w' => e = .returned (.int .u8 0) ∧ Kept [] w w'
set_option maxHeartbeats 4000000 in
set_option maxRecDepth 100000 in
theorem addrOf_three (v : Value) (w : World) (hv : NumV w v 3) : Calls Salg.prog 191 #[v] w fun e w' => e = .returned (A8 (ad 3)) ∧ Kept [] w w' := by
  have M := Mem.start w []
  obtain ⟨ds, ⟨p, c, rfl, hc1, hc2, hd, hsm⟩, ht, hval⟩ := hv
  obtain rfl : ds = [3] := tight_inj hsm (by intro x hx; simp at hx; omega) ht (by intro x hx; simp at hx; omega) hval
  obtain ⟨b, t, cs, rfl, hr, hpre⟩ := hd.at (i := 0) (by decide)
  have HG : Hid ((cs.map n8).toArray[0]? = some (n8 3)) := by show _ = _; simp [pre_get hpre (i := 0) (by decide)]
  clear hd hpre hsm ht hval
  simp only [List.length_cons, List.length_nil] at *
  go_enter Salg.func191, Salg.ntmps191
  go_wp2_with (first
    | ((with_reducible apply L_allocA (d := 2) M); exact zero45; clear M; intro t2 w1 ht2 M; simp only [Act.put, List.setIfInBounds_toArray, List.set_cons_zero, List.set_cons_succ])
    | ((with_reducible apply L_allocA (d := 3) M); exact zero45; clear M; intro t3 w2 ht3 M; simp only [Act.put, List.setIfInBounds_toArray, List.set_cons_zero, List.set_cons_succ]))
  go_loopw [4] (fun iv wr => (iv = .int .i64 0 ∧ Mem w [] [(t3, R8 45 (List.replicate 20 0)), (t2, R8 45 (List.replicate 20 0))] wr) ∨ (iv = .int .i64 1 ∧ Mem w [] [(t3, R8 45 (ad 3)), (t2, R8 45 (List.replicate 20 0))] wr)) (fun iv _ => (1 - intOf iv).toNat)
  case atStart => exact .inl ⟨rfl, M⟩
  case round =>
    clear M
    rcases hrel with ⟨rfl, M⟩ | ⟨rfl, M⟩
    · go_wp2_with (first
        | ((with_reducible apply W_loadCell); rfl; exact M.kept.row hr (by simp); exact HG.out; exact Salg.underlying5; rfl; simp only [Act.put, List.setIfInBounds_toArray, List.set_cons_zero, List.set_cons_succ])
        | ((with_reducible apply W_st8_0 (o := 19) (m := 3)); rfl; rfl; rfl; exact M; exact Or.inr ht3; exact size5; decide; clear M; intro w5 M))
      go_roundw
      case rel => exact .inr ⟨by go_num, M⟩
      case measure => decide
    · go_wp2_with (first
        | ((with_reducible apply W_loadAll); rfl; exact M.r0; exact Salg.underlying45; rfl; exact size45; simp only [Act.put, List.setIfInBounds_toArray, List.set_cons_zero, List.set_cons_succ])
        | ((with_reducible apply W_storeK (b := t2) (vs := ((ad 3).map n8).toArray)); rfl; rfl; exact M.r1; exact size45; rfl; exact oneL rfl; intro w6 K hr3; replace M := Mem.callPut (L1 := [(t3, _)]) M (Or.inr ht2) K hr3; clear K hr3; simp only [List.cons_append, List.nil_append] at M))
      exact ret_cell1 Salg.results191 rfl M.r1 Salg.underlying45 rfl size45 rfl ⟨rfl, M.kept⟩

set_option maxHeartbeats 4000000 in
set_option maxRecDepth 100000 in
theorem nativeAt_three (w : World) : Calls Salg.prog 95 #[A8 (ad 3)] w fun e w' => e = .returned (.int .u8 0) ∧ Kept [] w w' := by
  have M := Mem.start w []
  go_enter Salg.func95, Salg.ntmps95
  go_wp2_with (first
    | ((with_reducible apply L_box (d := 1) M); rfl; clear M; intro c1 w1 hc1 M; simp only [Act.put, List.setIfInBounds_toArray, List.set_cons_zero, List.set_cons_succ])
    | ((with_reducible apply W_loadAll); rfl; (first | with_reducible exact M.r0 | with_reducible exact M.r1 | with_reducible exact M.r2 | with_reducible exact M.r3 | with_reducible exact M.r4 | with_reducible exact M.r5 | with_reducible exact M.r6 | assumption | exact M.kept.row (by assumption) (by simp)); exact Salg.underlying45; rfl; (first | with_reducible exact size45 | (rw [size45]; simp [ad])); simp only [Act.put, List.setIfInBounds_toArray, List.set_cons_zero, List.set_cons_succ])
    | ((with_reducible apply W_loadAllG); rfl; rfl; (first | with_reducible exact M.r0 | with_reducible exact M.r1 | with_reducible exact M.r2 | with_reducible exact M.r3 | with_reducible exact M.r4 | with_reducible exact M.r5 | with_reducible exact M.r6 | assumption | exact M.kept.row (by assumption) (by simp)); exact Salg.underlying45; rfl; (first | with_reducible exact size45 | (rw [size45]; simp [ad])); simp only [Act.put, List.setIfInBounds_toArray, List.set_cons_zero, List.set_cons_succ])
    | ((with_reducible apply W_eql8 (l := ad 3) (l' := ad 4)); rfl; rfl; exact Salg.underlying45; exact Salg.underlying5; exact size5; exact guard45; rfl; rfl; rw [decide_eq_false (by decide)]; simp only [Act.put, List.setIfInBounds_toArray, List.set_cons_zero, List.set_cons_succ])
    | ((with_reducible apply L_runG); rfl; exact run_eql8 (l := ad 3) (l' := ad 5) rfl rfl Salg.underlying45 Salg.underlying5 size5 guard45 rfl rfl; rw [decide_eq_false (by decide)]; simp only [Act.put, List.setIfInBounds_toArray, List.set_cons_zero, List.set_cons_succ]))
  go_ret
  exact ⟨rfl, M.kept⟩

theorem target_two : TargetOK 2 := ⟨by decide, fun v w h => addrOf_two v w h, fun w => nativeAt_two w⟩
theorem target_three : TargetOK 3 := ⟨by decide, fun v w h => addrOf_three v w h, fun w => nativeAt_three w⟩
theorem ad_small {i : Nat} (h : i < 256) : Small (ad i) := by
  intro x hx
  simp [ad] at hx
  omega
theorem warm_Y (c i : Nat) (E : XEnv) (fr rt : Value) (la : List (List Nat)) (w : World) (hC : ChY w c E fr rt la) (hi : i < 256) (hl : la.length ≤ 20) :
    Calls Salg.prog 93 #[.pointer (some ⟨c, 0, none⟩), A8 (ad i)] w fun e w' => ∃ r, e = .returned r ∧ ChY w' c E fr rt (adWith la (ad i)) ∧ Kept [c] w w' := by
  obtain ⟨wz, c1, c2⟩ := hC
  refine (warm_any c 119 _ wz la (ad i) w c1 (chN_get _ _ _ _ (by decide)) c2 ⟨rfl, ad_small hi⟩ (by omega) (by decide)).mono ?_
  rintro e w' ⟨r, v', rfl, K, k1, k2⟩
  refine ⟨r, rfl, ⟨v', ?_, k2⟩, K⟩
  rw [k1]
  have e2 : (chN E wz fr rt).setIfInBounds 1 v' = chN E v' fr rt := by kernel_rfl
  rw [e2]

set_option maxHeartbeats 4000000 in
set_option maxRecDepth 100000 in
theorem enterCall1_call (c fb cap m G A t a b V : Nat) (sb : Bool) (E : XEnv) (fs0 : Array Value) (cv vv rt : Value) (la : List (List Nat)) (D : List AD) (da dt d2 : AD) (w : World) (hC : ChY w c E (.slice (some ⟨fb, 0, none⟩) 1 cap) rt la) (hA : AccD D w E.vz) (hF : FrameQ w fb 0 fs0 m G [0, 0, 0, 0, V, t, A] nilS) (hf : FrB fs0 0 sb cv) (hse : fs0.extract (0 + 12) (0 + 12 + 20) = ((ad a).map n8).toArray) (ha : a < 256) (hT : TargetOK t) (hda : D.find? (fun x => x.adr == ad a) = some da) (hdt : D.find? (fun x => x.adr == ad t) = some dt) (hB : da.B < 256 ^ 100) (hVB : V ≤ da.B) (hl0 : 0 < (adWith la (ad t)).length) (hl1 : la.length ≤ 15) (hl2 : (adWith la (ad t)).length ≤ 20) (hD0 : 0 < D.length) (hD20 : D.length ≤ 20) (hmd : E.md = nilS) (hsz : fs0.size = cap * 60) (hcap : cap ≤ maxLen) (hc1 : 1 ≤ cap) (hm : m ≤ 1000) (hG : G < 1000000) (hV0 : V = 0) :
    Calls Salg.prog 194 #[.pointer (some ⟨c, 0, none⟩), .pointer (some ⟨fb, 0, none⟩), .int .u8 241] w fun e w' => ∃ (r : Value) (fb' cap' : Nat) (cur : Array Value) (pv gv sv r7 cw sg vn iu a0 a1 a3 a6 vz' : Value), e = .returned r ∧ ChY w' c { E with vz := vz' } (.slice (some ⟨fb', 0, none⟩) 2 cap') nilS (adWith la (ad t)) ∧ w'.heap[fb']? = some (.cells cur 142 (0, 0)) ∧ (fb' = fb ∨ w.heap.size ≤ fb') ∧ (∀ k, k < 60 → k ≠ 0 + 3 → k ≠ 0 + 4 → k ≠ 0 + 6 → k ≠ 0 + 7 → k ≠ 0 + 8 → k ≠ 0 + 9 → cur[k]? = fs0[k]?) ∧ cur[0 + 3]? = some pv ∧ cur[0 + 4]? = some gv ∧ cur[0 + 7]? = some r7 ∧ cur[0 + 8]? = some sv ∧ cur[0 + 9]? = some nilS ∧ (∃ r6 : Value, cur[0 + 6]? = some r6 ∧ r6.oneCell' = true) ∧ PartsV w' pv gv sv [] m (G - (min A (G - G / 64))) [] ∧ NumV w' r7 0 ∧ (∀ k, k < 60 → cur[60 + k]? = (frG 2 sb sg vn cw iu (ad t) (ad a) (wrow5 a0 a1 a3 a6))[k]?) ∧ NumV w' sg (min A (G - G / 64)) ∧ NumV w' vn V ∧ NatV w' cw dt.ds ∧ NatV w' iu [] ∧ cur.size = cap' * 60 ∧ cap' ≤ maxLen ∧ 2 ≤ cap' ∧ (a0.oneCell' = true ∧ a1.oneCell' = true ∧ a3.oneCell' = true ∧ a6.oneCell' = true) ∧ AccD D w' vz' ∧ Kept [c, fb] w w' := by
  have M := Mem.start w []
  obtain ⟨fs, pv, gv, sv, xs, hr, h0, h2, h3, h4, h5, h6, h7, h8, h9, hmv⟩ := hF
  have hxl : xs.length = 7 := by have := h9.1; simpa using this
  obtain ⟨u0, hu0⟩ : ∃ u, xs[xs.length - 1 - 0]? = some u := ⟨_, List.getElem?_eq_getElem (by omega)⟩
  obtain ⟨u1, hu1⟩ : ∃ u, xs[xs.length - 1 - 1]? = some u := ⟨_, List.getElem?_eq_getElem (by omega)⟩
  obtain ⟨u2, hu2⟩ : ∃ u, xs[xs.length - 1 - 2]? = some u := ⟨_, List.getElem?_eq_getElem (by omega)⟩
  obtain ⟨u3, hu3⟩ : ∃ u, xs[xs.length - 1 - 3]? = some u := ⟨_, List.getElem?_eq_getElem (by omega)⟩
  obtain ⟨u4, hu4⟩ : ∃ u, xs[xs.length - 1 - 4]? = some u := ⟨_, List.getElem?_eq_getElem (by omega)⟩
  obtain ⟨u5, hu5⟩ : ∃ u, xs[xs.length - 1 - 5]? = some u := ⟨_, List.getElem?_eq_getElem (by omega)⟩
  obtain ⟨u6, hu6⟩ : ∃ u, xs[xs.length - 1 - 6]? = some u := ⟨_, List.getElem?_eq_getElem (by omega)⟩
  obtain ⟨p, cp, rfl⟩ : ∃ p cap, sv = .slice p xs.length cap := by
    rcases h8 with ⟨rfl, rfl⟩ | ⟨g, cap, cur, rfl, _⟩
    · exact ⟨none, 0, rfl⟩
    · exact ⟨_, _, rfl⟩
  have HNB := hid (not_bytes_at (tc := 142) h7)
  have HP : Hid (PartsV w pv gv (.slice p xs.length cp) xs m G [0, 0, 0, 0, V, t, A]) := ⟨h4, h6, h8, h9⟩
  have N0 : Hid (NumV w u0 A) := h9.2 _ _ _ hu0 (by rw [hxl]; rfl)
  have N1 : Hid (NumV w u1 t) := h9.2 _ _ _ hu1 (by rw [hxl]; rfl)
  have N2 : Hid (NumV w u2 V) := h9.2 _ _ _ hu2 (by rw [hxl]; rfl)
  have N3 : Hid (NumV w u3 0) := h9.2 _ _ _ hu3 (by rw [hxl]; rfl)
  have N4 : Hid (NumV w u4 0) := h9.2 _ _ _ hu4 (by rw [hxl]; rfl)
  have N5 : Hid (NumV w u5 0) := h9.2 _ _ _ hu5 (by rw [hxl]; rfl)
  have N6 : Hid (NumV w u6 0) := h9.2 _ _ _ hu6 (by rw [hxl]; rfl)
  have hz : fs.size = cap * 60 := h0.trans hsz
  have g2 := (h2 (0 + 2) (by decide) (by decide) (by decide) (by decide)).trans hf.f2
  have HSE : Hid (fs.extract (0 + 12) (0 + 12 + 20) = ((ad a).map n8).toArray) := by
    have e := ext_same (a := 0 + 12) (n := 20) h0 fun k k1 k2 => h2 k (by omega) (by omega) (by omega) (by omega)
    exact e.trans hse
  have HX2 := hid h2
  have HC := hid hC
  have HA := hid hA
  have HT := hid hT
  have HDA := hid hda
  have HDT := hid hdt
  have hfl := lt_of_row hr
  have hfc : fb ∉ [c] := by
    obtain ⟨wz, y, _⟩ := hC
    exact row_ne y hr (by intro h; injection h with _ h _; exact absurd h (by decide))
  have hcl : c < w.heap.size := by
    obtain ⟨_, y, _⟩ := hC
    exact lt_of_row y
  have z4 : 0 + 4 < fs.size := by omega
  have hdc : decide (cmpI da.B V < 0) = false := by
    unfold cmpI
    rw [if_neg (by omega)]
    split <;> rfl
  have HDC := hid hdc
  clear hdc
  clear h2 h4 h6 h8 h9 hC hA hf hse h0 hT hda hdt  
  go_enter Salg.func194, Salg.ntmps194
  go_wp2_with fail
  refine (arity_call _).mono ?_
  rintro e w1 ⟨rfl, hw⟩
  replace hw := hw.symm
  subst hw
  go_wp2_with fail
  refine (arg_q fb 0 fs _ u0 xs 0 _ (M.kept.row hr (by simp)) h7 (HP.out.s.kept M.kept) (by omega) hu0 (by omega)).mono ?_
  rintro e w2 ⟨rfl, K⟩
  replace M := M.call K
  clear K
  go_wp2_with fail
  refine (arg_q fb 0 fs _ u1 xs 1 _ (M.kept.row hr (by simp)) h7 (HP.out.s.kept M.kept) (by omega) hu1 (by omega)).mono ?_
  rintro e w3 ⟨rfl, K⟩
  replace M := M.call K
  clear K
  go_wp2_with fail
  refine (HT.out.adr u1 _ (N1.out.kept M.kept)).mono ?_
  rintro e w4 ⟨rfl, K⟩
  replace M := M.call K
  clear K
  go_wp2_with (first
    | ((with_reducible apply L_allocA M); exact zero45; clear M; intro t10 w5 ht10 M; simp only [Act.put, List.setIfInBounds_toArray, List.set_cons_zero, List.set_cons_succ])
    | ((with_reducible apply W_storeK (b := t10) (vs := ((ad t).map n8).toArray)); rfl; rfl; exact M.r0; exact size45; rfl; exact one8 _; intro w6 K1 hr3; replace M := Mem.callPut (L1 := []) M (Or.inr ht10) K1 hr3; clear K1 hr3; simp only [List.nil_append] at M))
  refine S_region (by kernel_rfl) ?_
  refine E_stage 0 4 [0, 1, 2, 3] (by kernel_rfl) M.drew ?_
  clear M
  simp only [List.filterMap_cons, List.filterMap_nil, List.getElem?_cons_zero, List.getElem?_cons_succ]
  ((with_reducible apply E_run); rfl; rfl; (intro w M; go_simp; (try go_ints); (try simp only [↓IntWalk.iteOmega]); (try with_reducible rfl)); simp only [Act.put, List.setIfInBounds_toArray, List.set_cons_zero, List.set_cons_succ])
  ((with_reducible apply E_run); rfl; rfl; (intro w M; go_simp; (try go_ints); (try simp only [↓IntWalk.iteOmega]); (try with_reducible rfl)); simp only [Act.put, List.setIfInBounds_toArray, List.set_cons_zero, List.set_cons_succ])
  ((with_reducible apply E_run); rfl; rfl; (intro w M; go_simp; (try go_ints); (try simp only [↓IntWalk.iteOmega]); (try with_reducible rfl)); simp only [Act.put, List.setIfInBounds_toArray, List.set_cons_zero, List.set_cons_succ])
  ((with_reducible apply E_run); rfl; rfl; (intro w M; exact run_loadAll M.r0 rfl Salg.underlying45 rfl size45); simp only [Act.put, List.setIfInBounds_toArray, List.set_cons_zero, List.set_cons_succ])
  refine E_nil ?_
  intro w7 K M
  clear K
  refine S_seg 4 5 (by kernel_rfl) (by decide) ?_
  simp only [List.take_succ_cons, List.take_zero, List.drop_zero, List.drop_succ_cons, Nat.sub_zero, Nat.reduceSub]
  go_wp2_with fail
  refine (warm_Y c t E _ rt la _ (HC.out.kept M.kept) HT.out.lt (by omega)).mono ?_
  rintro e w8 ⟨r8, rfl, x8, K1⟩
  obtain ⟨wz, c1, _⟩ := HC.out.kept M.kept
  have HO := hid (chy_nb E wz (.slice (some ⟨fb, 0, none⟩) 1 cap) rt)
  replace hr := K1.row (M.kept.row hr (by simp)) hfc
  have h10c : t10 ∉ [c] := by simp; omega
  have H10 := hid (K1.row M.r0 h10c)
  replace HP := hid ((HP.out.kept M.kept).keptC K1 c1 HO.out (by decide))
  replace HA := hid ((AccD.still D).keptC ((AccD.still D).kept HA.out M.kept) K1 c1 HO.out (.inl rfl))
  replace N0 := hid ((N0.out.kept M.kept).keptC K1 c1 HO.out)
  replace N2 := hid ((N2.out.kept M.kept).keptC K1 c1 HO.out)
  replace N3 := hid ((N3.out.kept M.kept).keptC K1 c1 HO.out)
  replace N4 := hid ((N4.out.kept M.kept).keptC K1 c1 HO.out)
  replace N5 := hid ((N5.out.kept M.kept).keptC K1 c1 HO.out)
  replace N6 := hid ((N6.out.kept M.kept).keptC K1 c1 HO.out)
  have HK : Hid (Kept [c, fb] w w8) := (M.kept.mono (by simp)).trans (K1.mono (by simp))
  replace HC : Hid (ChY w8 c E (.slice (some ⟨fb, 0, none⟩) 1 cap) rt (adWith la (ad t))) := x8
  have h10f : t10 ≠ fb := by omega
  have h10l := lt_of_row H10.out
  clear x8 K1 M c1 HO
  have M : Mem w8 [] [(t10, .cells ((ad t).map n8).toArray 45 (0, 0))] w8 := (Mem.start w8 []).add H10.out (by simp)
  go_wp2_with fail
  refine S_done ?_
  go_wp2_with fail
  refine (arg_q fb 0 fs _ u2 xs 2 _ (M.kept.row hr (by simp)) h7 (HP.out.s.kept M.kept) (by omega) hu2 (by omega)).mono ?_
  rintro e w8b ⟨rfl, K⟩
  replace M := M.call K
  clear K
  go_wp2_with fail
  refine S_region (by kernel_rfl) ?_
  refine E_float 0 13 [0, 1, 2, 3, 4, 6, 7, 8, 9, 10, 5, 11] 12 13 _ (by kernel_rfl) ⟨⟨_, _, _, _, _, rfl, zero142, rfl⟩⟩ (by simp) M.drew ?_
  clear M
  simp only [List.filterMap_cons, List.filterMap_nil, List.getElem?_cons_zero, List.getElem?_cons_succ]
  ((with_reducible apply E_run); rfl; rfl; (intro w M; go_simp; (try go_ints); (try simp only [↓IntWalk.iteOmega]); (try with_reducible rfl)); simp only [Act.put, List.setIfInBounds_toArray, List.set_cons_zero, List.set_cons_succ])
  ((with_reducible apply E_run); rfl; rfl; (intro w M; go_simp; (try go_ints); (try simp only [↓IntWalk.iteOmega]); (try with_reducible rfl)); simp only [Act.put, List.setIfInBounds_toArray, List.set_cons_zero, List.set_cons_succ])
  ((with_reducible apply E_run); rfl; rfl; (intro w M; go_simp; (try go_ints); (try simp only [↓IntWalk.iteOmega]); (try with_reducible rfl)); simp only [Act.put, List.setIfInBounds_toArray, List.set_cons_zero, List.set_cons_succ])
  ((with_reducible apply E_run); rfl; rfl; (intro w M; exact run_loadCell (M.kept.row hr (by simp)) rfl g2 Salg.underlying4 rfl); simp only [Act.put, List.setIfInBounds_toArray, List.set_cons_zero, List.set_cons_succ])
  ((with_reducible apply E_run); rfl; rfl; (intro w M; go_simp; (try go_ints); (try simp only [↓IntWalk.iteOmega]); (try with_reducible rfl)); simp only [Act.put, List.setIfInBounds_toArray, List.set_cons_zero, List.set_cons_succ])
  ((with_reducible apply E_run); rfl; rfl; (intro w M; exact run_loadAll M.r0 rfl Salg.underlying45 rfl size45); simp only [Act.put, List.setIfInBounds_toArray, List.set_cons_zero, List.set_cons_succ])
  ((with_reducible apply E_run); rfl; rfl; (intro w M; go_simp; (try go_ints); (try simp only [↓IntWalk.iteOmega]); (try with_reducible rfl)); simp only [Act.put, List.setIfInBounds_toArray, List.set_cons_zero, List.set_cons_succ])
  ((with_reducible apply E_run); rfl; rfl; (intro w M; go_simp; (try go_ints); (try simp only [↓IntWalk.iteOmega]); (try with_reducible rfl)); simp only [Act.put, List.setIfInBounds_toArray, List.set_cons_zero, List.set_cons_succ])
  ((with_reducible apply E_run); rfl; rfl; (intro w M; go_simp; (try go_ints); (try simp only [↓IntWalk.iteOmega]); (try with_reducible rfl)); simp only [Act.put, List.setIfInBounds_toArray, List.set_cons_zero, List.set_cons_succ])
  ((with_reducible apply E_run (v := .agg ((ad a).map n8).toArray)); rfl; rfl; (intro w M; exact run_loadX (n := 20) (M.kept.row hr (by simp)) rfl Salg.underlying45 rfl size45 (by omega) HSE.out); simp only [Act.put, List.setIfInBounds_toArray, List.set_cons_zero, List.set_cons_succ])
  refine E_call rfl Salg.func158 (by kernel_rfl) (by kernel_rfl) (args := [u2]) rfl ?_
  intro w1 K M
  clear K
  refine (norm_num u2 V _ (N2.out.kept M.kept)).mono ?_
  rintro e w9 ⟨vn, rfl, xHVN, K⟩
  have HVN := hid xHVN
  clear xHVN
  replace M := M.call K
  refine ⟨_, rfl, K.mono (by simp), M, ?_⟩
  clear K
  simp only [Act.put, List.setIfInBounds_toArray, List.set_cons_zero, List.set_cons_succ]
  ((with_reducible apply E_run (v := .agg (frG 2 sb nilS vn nilS nilS (ad t) (ad a) wnil).toArray)); rfl; rfl; (intro w M; obtain ⟨p0, q0, s0, e0⟩ := HVN.out.slice; subst e0; kernel_rfl); simp only [Act.put, List.setIfInBounds_toArray, List.set_cons_zero, List.set_cons_succ])
  refine E_nil ?_
  intro w10 K1 M
  replace HVN := hid (HVN.out.kept K1)
  clear K1
  intro t13 w11 K1 ht13 M
  replace HVN := hid (HVN.out.kept K1)
  clear K1
  simp only [Act.put, List.setIfInBounds_toArray, List.set_cons_zero, List.set_cons_succ]
  refine S_seg 13 14 (by kernel_rfl) (by decide) ?_
  simp only [List.take_succ_cons, List.take_zero, List.drop_zero, List.drop_succ_cons, Nat.sub_zero, Nat.reduceSub]
  have HVN1 := hid HVN.out.one
  have HB13 : t13 ∈ ([] : List Nat) ∨ w8.heap.size ≤ t13 := Or.inr ht13
  go_wp2_with ((with_reducible apply W_storeK (b := t13) (vs := (frG 2 sb nilS vn nilS nilS (ad t) (ad a) wnil).toArray)); rfl; rfl; exact M.r0; exact size142; rfl; exact frG_oneN rfl HVN1.out rfl rfl; intro w12 K1 hr3; replace HVN := hid (HVN.out.keptC K1 M.r0 (not_bytes_at (i := 3) (p := none) (n := 0) (m := 0) (by kernel_rfl))); replace M := Mem.callPut (L1 := []) M HB13 K1 hr3; clear K1 hr3; simp only [List.nil_append] at M)
  refine S_done ?_
  go_wp2_with (first
    | ((with_reducible apply W_loadCell); rfl; exact M.kept.row hr (by simp); exact h5; exact Salg.underlying89; rfl; simp only [Act.put, List.setIfInBounds_toArray, List.set_cons_zero, List.set_cons_succ]))
  refine (sentGas_any gv u0 G A _ (HP.out.g.kept M.kept) (N0.out.kept M.kept) hG).mono ?_
  rintro e w13 ⟨sg, rfl, xHSG, K⟩
  have HSG := hid xHSG
  replace HVN := hid (HVN.out.kept K)
  replace M := M.call K
  clear K xHSG
  go_wp2_with ((with_reducible apply W_loadCell); rfl; exact M.kept.row hr (by simp); exact h5; exact Salg.underlying89; rfl; simp only [Act.put, List.setIfInBounds_toArray, List.set_cons_zero, List.set_cons_succ])
  refine (less_any gv sg G _ _ (HP.out.g.kept M.kept) HSG.out (by omega) (by omega)).mono ?_
  rintro e w14 ⟨lg, rfl, xHLG, K⟩
  have HLG := hid xHLG
  replace HSG := hid (HSG.out.kept K)
  replace HVN := hid (HVN.out.kept K)
  replace M := M.call K
  clear K xHLG
  have hrow := M.kept.row hr (by simp)
  have h13f : t13 ≠ fb := by have := lt_of_row hr; omega
  have h13w : w.heap.size ≤ t13 := Nat.le_trans HK.out.size ht13
  have hsg1 := HSG.out.one
  go_wp2_with (first
    | ((with_reducible apply W_stV (b := fb) (o := 0 + 4) (v := lg)); rfl; rfl; exact HLG.out.one; exact hrow; exact size89; exact z4; intro w15a K1 hr15)
    | ((with_reducible apply W_stV (b := t13) (o := 4) (v := sg)); rfl; rfl; exact hsg1; exact K1.row M.r0 (by simpa using h13f); exact size89; exact Nat.le_of_ble_eq_true (by kernel_rfl); intro w15 K2 hr16; rw [show ((frG 2 sb nilS vn nilS nilS (ad t) (ad a) wnil).toArray).setIfInBounds 4 sg = (frG 2 sb sg vn nilS nilS (ad t) (ad a) wnil).toArray from by kernel_rfl] at hr16))
  have NB4 := hid (frG_nb 2 sb nilS vn nilS nilS (ad t) (ad a) wnil)
  have h13a := K1.row M.r0 (by simpa using h13f)
  have HNB2 := hid (not_bytes_at (tc := 142) (cs := fs.setIfInBounds (0 + 4) lg) (i := 0 + 8) ((Array.getElem?_setIfInBounds_ne (by decide)).trans h7))
  replace HP := hid (((HP.out.kept M.kept).keptC K1 hrow HNB.out (by decide)).keptC K2 h13a NB4.out (by decide))
  replace HA := hid ((AccD.still D).keptC ((AccD.still D).keptC ((AccD.still D).kept HA.out M.kept) K1 hrow HNB.out (.inr rfl)) K2 h13a NB4.out (.inr rfl))
  replace N2 := hid (((N2.out.kept M.kept).keptC K1 hrow HNB.out).keptC K2 h13a NB4.out)
  replace N3 := hid (((N3.out.kept M.kept).keptC K1 hrow HNB.out).keptC K2 h13a NB4.out)
  replace N4 := hid (((N4.out.kept M.kept).keptC K1 hrow HNB.out).keptC K2 h13a NB4.out)
  replace N5 := hid (((N5.out.kept M.kept).keptC K1 hrow HNB.out).keptC K2 h13a NB4.out)
  replace N6 := hid (((N6.out.kept M.kept).keptC K1 hrow HNB.out).keptC K2 h13a NB4.out)
  replace HSG := hid ((HSG.out.keptC K1 hrow HNB.out).keptC K2 h13a NB4.out)
  replace HVN := hid ((HVN.out.keptC K1 hrow HNB.out).keptC K2 h13a NB4.out)
  replace HLG := hid ((HLG.out.keptC K1 hrow HNB.out).keptC K2 h13a NB4.out)
  replace HC := hid (((HC.out.kept M.kept).frame K1 hrow).frame K2 h13a)
  have HK1 : Hid (Kept [t13, c, fb] w w15) := (HK.out.mono (by intro k hk; simp at hk ⊢; omega)).trans ((M.kept.mono (by simp)).trans ((K1.mono (by simp)).trans (K2.mono (by simp))))
  replace H10 := hid (K2.row (K1.row M.r1 (by simpa using h10f)) (by simpa using fun h => M.ne01 h.symm))
  have H13 := hid hr16
  have HB13 : t13 ∈ [t13] ∨ w15.heap.size ≤ t13 := Or.inl (by simp)
  have hne : t13 ≠ t10 := M.ne01
  have NB13 := hid (frG_nb 2 sb sg vn nilS nilS (ad t) (ad a) wnil)
  have hf13 : fb ∉ [t13] := by simp; omega
  replace hr := K2.row hr15 hf13
  clear K1 K2 M hrow h13a NB4 HK hr15 hr16
  have M : Mem w15 [t13] [(t13, .cells (frG 2 sb sg vn nilS nilS (ad t) (ad a) wnil).toArray 142 (0, 0)), (t10, .cells ((ad t).map n8).toArray 45 (0, 0))] w15 := ((Mem.start w15 [t13]).add H10.out (by simp)).add H13.out (by simpa using hne)
  have h7' : (fs.setIfInBounds (0 + 4) lg)[0 + 8]? = some (.slice p xs.length cp) := (Array.getElem?_setIfInBounds_ne (by decide)).trans h7
  have ha' : (fs.setIfInBounds (0 + 4) lg)[0 + 9]? = some nilS := (Array.getElem?_setIfInBounds_ne (by decide)).trans hmv
  have HSE2 : Hid ((fs.setIfInBounds (0 + 4) lg).extract (0 + 12) (0 + 12 + 20) = ((ad a).map n8).toArray) := by
    have e := ext_same (fs := fs.setIfInBounds (0 + 4) lg) (fs0 := fs) (a := 0 + 12) (n := 20) (by simp) fun k k1 k2 => Array.getElem?_setIfInBounds_ne (by omega)
    exact e.trans HSE.out
  refine (isZero_lit u2 V true (by simp; exact hV0) _ (N2.out.keptC M.kept H13.out NB13.out)).mono ?_
  rintro e w16 ⟨rfl, K⟩
  replace M := M.call K
  clear K
  go_wp2_with fail
  have HCS := hid (HC.out.keptK M.kept H13.out)
  have HAS := hid ((AccD.still D).keptC HA.out M.kept H13.out NB13.out (.inr rfl))
  have HN2 : Hid (NumV _ u2 V) := (N2.out.keptC M.kept H13.out NB13.out)
  obtain ⟨wz, c1, _⟩ := HCS.out
  have MM := M
  replace M := M.anew []
  refine S_region (by kernel_rfl) ?_
  replace HN2 := hid (HN2.out.kept (Kept.refl [] _).drew)
  refine E_stage 0 21 [0, 1, 2, 3, 4, 5, 6, 7, 8, 9, 10, 11, 12, 13, 14, 17, 15, 16, 18, 19, 20] (by kernel_rfl) M.drew ?_
  clear M
  simp only [List.filterMap_cons, List.filterMap_nil, List.getElem?_cons_zero, List.getElem?_cons_succ]
  ((with_reducible apply E_run); rfl; rfl; (intro w M; go_simp; (try go_ints); (try simp only [↓IntWalk.iteOmega]); (try with_reducible rfl)); simp only [Act.put, List.setIfInBounds_toArray, List.set_cons_zero, List.set_cons_succ])
  ((with_reducible apply E_run); rfl; rfl; (intro w M; go_simp; (try go_ints); (try simp only [↓IntWalk.iteOmega]); (try with_reducible rfl)); simp only [Act.put, List.setIfInBounds_toArray, List.set_cons_zero, List.set_cons_succ])
  ((with_reducible apply E_run); rfl; rfl; (intro w M; go_simp; (try go_ints); (try simp only [↓IntWalk.iteOmega]); (try with_reducible rfl)); simp only [Act.put, List.setIfInBounds_toArray, List.set_cons_zero, List.set_cons_succ])
  ((with_reducible apply E_run); rfl; rfl; (intro w M; exact run_loadCell (M.kept.row c1 (by simp)) rfl (show (chN E wz (.slice (some ⟨fb, 0, none⟩) 1 cap) rt)[9]? = some (.slice (some ⟨fb, 0, none⟩) 1 cap) by kernel_rfl) Salg.underlying115 rfl); simp only [Act.put, List.setIfInBounds_toArray, List.set_cons_zero, List.set_cons_succ])
  ((with_reducible apply E_run); rfl; rfl; (intro w M; go_simp; (try go_ints); (try simp only [↓IntWalk.iteOmega]); (try with_reducible rfl)); simp only [Act.put, List.setIfInBounds_toArray, List.set_cons_zero, List.set_cons_succ])
  ((with_reducible apply E_run); rfl; rfl; (intro w M; go_simp; (try go_ints); (try simp only [↓IntWalk.iteOmega]); (try with_reducible rfl)); simp only [Act.put, List.setIfInBounds_toArray, List.set_cons_zero, List.set_cons_succ])
  ((with_reducible apply E_run); rfl; rfl; (intro w M; go_simp; (try go_ints); (try simp only [↓IntWalk.iteOmega]); (try with_reducible rfl)); simp only [Act.put, List.setIfInBounds_toArray, List.set_cons_zero, List.set_cons_succ])
  ((with_reducible apply E_run); rfl; rfl; (intro w M; go_simp; (try go_ints); (try simp only [↓IntWalk.iteOmega]); (try with_reducible rfl)); simp only [Act.put, List.setIfInBounds_toArray, List.set_cons_zero, List.set_cons_succ])
  ((with_reducible apply E_run); rfl; rfl; (intro w M; go_simp; (try go_ints); (try simp only [↓IntWalk.iteOmega]); (try with_reducible rfl)); simp only [Act.put, List.setIfInBounds_toArray, List.set_cons_zero, List.set_cons_succ])
  ((with_reducible apply E_run); rfl; rfl; (intro w M; go_simp; (try go_ints); (try simp only [↓IntWalk.iteOmega]); (try with_reducible rfl)); simp only [Act.put, List.setIfInBounds_toArray, List.set_cons_zero, List.set_cons_succ])
  ((with_reducible apply E_run); rfl; rfl; (intro w M; go_simp; (try go_ints); (try simp only [↓IntWalk.iteOmega]); (try with_reducible rfl)); simp only [Act.put, List.setIfInBounds_toArray, List.set_cons_zero, List.set_cons_succ])
  ((with_reducible apply E_run); rfl; rfl; (intro w M; go_simp; (try go_ints); (try simp only [↓IntWalk.iteOmega]); (try with_reducible rfl)); simp only [Act.put, List.setIfInBounds_toArray, List.set_cons_zero, List.set_cons_succ])
  ((with_reducible apply E_run); rfl; rfl; (intro w M; go_simp; (try go_ints); (try simp only [↓IntWalk.iteOmega]); (try with_reducible rfl)); simp only [Act.put, List.setIfInBounds_toArray, List.set_cons_zero, List.set_cons_succ])
  ((with_reducible apply E_run); rfl; rfl; (intro w M; go_simp; (try go_ints); (try simp only [↓IntWalk.iteOmega]); (try with_reducible rfl)); simp only [Act.put, List.setIfInBounds_toArray, List.set_cons_zero, List.set_cons_succ])
  ((with_reducible apply E_run (v := .agg ((ad a).map n8).toArray)); rfl; rfl; (intro w M; exact run_loadX (n := 20) (M.kept.row (MM.kept.row hr hf13) (by simp)) rfl Salg.underlying45 rfl size45 (by simp; omega) HSE2.out); simp only [Act.put, List.setIfInBounds_toArray, List.set_cons_zero, List.set_cons_succ])
  ((with_reducible apply E_run); rfl; rfl; (intro w M; go_simp; (try go_ints); (try simp only [↓IntWalk.iteOmega]); (try with_reducible rfl)); simp only [Act.put, List.setIfInBounds_toArray, List.set_cons_zero, List.set_cons_succ])
  refine E_call rfl Salg.func85 (by kernel_rfl) (by kernel_rfl) (args := [.pointer (some ⟨c, 0, none⟩), A8 (ad a)]) rfl ?_
  intro w1 K M
  replace HN2 := hid (HN2.out.kept K)
  clear K
  refine (account_D c 119 _ E.vz D da (ad a) _ (M.kept.row c1 (by simp)) (chN_get _ _ _ _ (by decide)) ((AccD.still D).kept HAS.out M.kept) rfl HDA.out).mono ?_
  rintro e w17 ⟨nva, bva, cua, rfl, xHNVa, xHB0, xHCUa, K⟩
  have HNVa := hid xHNVa
  have HB0 := hid xHB0
  have HCUa := hid xHCUa
  clear xHNVa xHB0 xHCUa
  replace HN2 := hid (HN2.out.kept K)
  replace M := M.call K
  refine ⟨_, rfl, trivial, M, ?_⟩
  clear K
  simp only [Act.put, List.setIfInBounds_toArray, List.set_cons_zero, List.set_cons_succ]
  ((with_reducible apply E_run (v := bva)); rfl; rfl; (intro w M; kernel_rfl); simp only [Act.put, List.setIfInBounds_toArray, List.set_cons_zero, List.set_cons_succ])
  refine E_call rfl Salg.func72 (by kernel_rfl) (by kernel_rfl) (args := [bva, u2]) rfl ?_
  intro w1 K M
  replace HB0 := hid (HB0.out.kept K)
  replace HN2 := hid (HN2.out.kept K)
  clear K
  refine (cmp_num bva u2 da.B V _ HB0.out HN2.out).mono ?_
  rintro e w18 ⟨rfl, K⟩
  replace HB0 := hid (HB0.out.kept K)
  replace HN2 := hid (HN2.out.kept K)
  replace M := M.call K
  refine ⟨_, rfl, trivial, M, ?_⟩
  clear K
  simp only [Act.put, List.setIfInBounds_toArray, List.set_cons_zero, List.set_cons_succ]
  ((with_reducible apply E_run (v := .bool (decide (cmpI da.B V < 0)))); rfl; rfl; (intro w M; go_simp; (try go_ints); (try with_reducible rfl)); simp only [Act.put, List.setIfInBounds_toArray, List.set_cons_zero, List.set_cons_succ])
  rw [HDC.out]
  ((with_reducible apply E_run); rfl; rfl; (intro w M; go_simp; (try go_ints); (try simp only [↓IntWalk.iteOmega]); (try with_reducible rfl)); simp only [Act.put, List.setIfInBounds_toArray, List.set_cons_zero, List.set_cons_succ])
  refine E_nil ?_
  intro w19 K M
  clear K
  refine S_done ?_
  replace M := MM.call M.kept
  clear MM HB0 HN2 c1 HCS HAS HNVa HCUa
  go_wp2_with fail
  refine (arg_q fb 0 (fs.setIfInBounds (0 + 4) lg) _ u3 xs 3 _ (M.kept.row hr hf13) h7' ((HP.out.keptC M.kept H13.out NB13.out (by decide)).s) (by omega) hu3 (by omega)).mono ?_
  rintro e w20 ⟨rfl, K⟩
  replace M := M.call K
  clear K
  go_wp2_with fail
  refine (arg_q fb 0 (fs.setIfInBounds (0 + 4) lg) _ u4 xs 4 _ (M.kept.row hr hf13) h7' ((HP.out.keptC M.kept H13.out NB13.out (by decide)).s) (by omega) hu4 (by omega)).mono ?_
  rintro e w21 ⟨rfl, K⟩
  replace M := M.call K
  clear K
  go_wp2_with fail
  refine (read_any fb 0 (fs.setIfInBounds (0 + 4) lg) nilS u3 u4 [] 0 0 _ (M.kept.row hr hf13) ha' (NatV.nil _) (N3.out.keptC M.kept H13.out NB13.out) (N4.out.keptC M.kept H13.out NB13.out) (by decide) (by decide)).mono ?_
  rintro e w22 ⟨iu, rfl, x1, _, K⟩
  have HIU := hid x1
  have hiu1 := x1.one
  replace M := M.call K
  clear K x1
  go_wp2_with (first
    | ((with_reducible apply W_stV (b := t13) (o := 11) (v := iu)); rfl; rfl; exact hiu1; exact M.r0; exact size40; exact Nat.le_of_ble_eq_true (by kernel_rfl); intro wS K hr3; replace HIU := hid (HIU.out.keptC K M.r0 (frG_nb _ _ _ _ _ _ _ _ _)); rw [show ((frG 2 sb sg vn nilS nilS (ad t) (ad a) wnil).toArray).setIfInBounds 11 (iu) = (frG 2 sb sg vn nilS iu (ad t) (ad a) wnil).toArray from by kernel_rfl] at hr3; replace M := Mem.callPut (L1 := []) M HB13 K hr3; clear K hr3; simp only [List.nil_append] at M)
    | ((with_reducible apply W_loadAll); rfl; exact M.r1; exact Salg.underlying45; rfl; exact size45; simp only [Act.put, List.setIfInBounds_toArray, List.set_cons_zero, List.set_cons_succ]))
  refine (HT.out.nat _).mono ?_
  rintro e w23 ⟨rfl, K⟩
  replace HIU := hid (HIU.out.kept K)
  replace M := M.call K
  clear K
  go_wp2_with (first
    | ((with_reducible apply W_stV (b := t13) (o := 1) (v := .int .u8 0)); rfl; rfl; exact rfl; exact M.r0; exact size5; exact Nat.le_of_ble_eq_true (by kernel_rfl); intro wS K hr3; replace HIU := hid (HIU.out.keptC K M.r0 (frG_nb _ _ _ _ _ _ _ _ _)); rw [show ((frG 2 sb sg vn nilS iu (ad t) (ad a) wnil).toArray).setIfInBounds 1 (.int .u8 0) = (frG 2 sb sg vn nilS iu (ad t) (ad a) wnil).toArray from by kernel_rfl] at hr3; replace M := Mem.callPut (L1 := []) M HB13 K hr3; clear K hr3; simp only [List.nil_append] at M)
    | ((with_reducible apply W_loadCell); rfl; exact M.r0; exact (show (frG 2 sb sg vn nilS iu (ad t) (ad a) wnil).toArray[1]? = some (.int .u8 0) by kernel_rfl); exact Salg.underlying5; rfl; simp only [Act.put, List.setIfInBounds_toArray, List.set_cons_zero, List.set_cons_succ]))
  have HCS := hid (HC.out.keptK M.kept H13.out)
  have HAS := hid ((AccD.still D).keptC HA.out M.kept H13.out NB13.out (.inr rfl))
  obtain ⟨wz, c1, _⟩ := HCS.out
  have MM := M
  replace M := M.anew []
  refine S_region (by kernel_rfl) ?_
  replace HIU := hid (HIU.out.kept (Kept.refl [] _).drew)
  refine E_stage 0 7 [0, 1, 2, 3, 4, 5, 6] (by kernel_rfl) M.drew ?_
  clear M
  simp only [List.filterMap_cons, List.filterMap_nil, List.getElem?_cons_zero, List.getElem?_cons_succ]
  ((with_reducible apply E_run); rfl; rfl; (intro w M; go_simp; (try go_ints); (try simp only [↓IntWalk.iteOmega]); (try with_reducible rfl)); simp only [Act.put, List.setIfInBounds_toArray, List.set_cons_zero, List.set_cons_succ])
  ((with_reducible apply E_run); rfl; rfl; (intro w M; go_simp; (try go_ints); (try simp only [↓IntWalk.iteOmega]); (try with_reducible rfl)); simp only [Act.put, List.setIfInBounds_toArray, List.set_cons_zero, List.set_cons_succ])
  ((with_reducible apply E_run); rfl; rfl; (intro w M; go_simp; (try go_ints); (try simp only [↓IntWalk.iteOmega]); (try with_reducible rfl)); simp only [Act.put, List.setIfInBounds_toArray, List.set_cons_zero, List.set_cons_succ])
  ((with_reducible apply E_run); rfl; rfl; (intro w M; exact run_loadAll M.r1 rfl Salg.underlying45 rfl size45); simp only [Act.put, List.setIfInBounds_toArray, List.set_cons_zero, List.set_cons_succ])
  refine E_call rfl Salg.func85 (by kernel_rfl) (by kernel_rfl) (args := [.pointer (some ⟨c, 0, none⟩), A8 (ad t)]) rfl ?_
  intro w1 K M
  replace HIU := hid (HIU.out.kept K)
  clear K
  refine (account_D c 119 _ E.vz D dt (ad t) _ (M.kept.row c1 (by simp)) (chN_get _ _ _ _ (by decide)) ((AccD.still D).kept HAS.out M.kept) rfl HDT.out).mono ?_
  rintro e w24 ⟨nvt, bvt, cut, rfl, xHNVt, xHBVt, xHCUt, K⟩
  have HNVt := hid xHNVt
  have HBVt := hid xHBVt
  have HCUt := hid xHCUt
  clear xHNVt xHBVt xHCUt
  replace HIU := hid (HIU.out.kept K)
  replace M := M.call K
  refine ⟨_, rfl, trivial, M, ?_⟩
  clear K
  simp only [Act.put, List.setIfInBounds_toArray, List.set_cons_zero, List.set_cons_succ]
  ((with_reducible apply E_run (v := cut)); rfl; rfl; (intro w M; kernel_rfl); simp only [Act.put, List.setIfInBounds_toArray, List.set_cons_zero, List.set_cons_succ])
  refine E_call rfl Salg.func96 (by kernel_rfl) (by kernel_rfl) (args := [cut]) rfl ?_
  intro w1 K M
  replace HCUt := hid (HCUt.out.kept K)
  replace HIU := hid (HIU.out.kept K)
  clear K
  refine (bytesOf_all cut dt.ds _ HCUt.out).mono ?_
  rintro e w25 ⟨cu2, rfl, xHCU, K⟩
  have HCU := hid xHCU
  clear xHCU
  replace HCUt := hid (HCUt.out.kept K)
  replace HIU := hid (HIU.out.kept K)
  replace M := M.call K
  refine ⟨_, rfl, trivial, M, ?_⟩
  clear K
  simp only [Act.put, List.setIfInBounds_toArray, List.set_cons_zero, List.set_cons_succ]
  refine E_nil ?_
  intro w26 K M
  replace HIU := hid (HIU.out.kept K)
  replace HCU := hid (HCU.out.kept K)
  clear K
  replace M := MM.call M.kept
  clear MM HCS HAS c1 HNVt HBVt HCUt
  have hcu1 := HCU.out.one
  refine S_seg 7 9 (by kernel_rfl) (by decide) ?_
  simp only [List.take_succ_cons, List.take_zero, List.drop_zero, List.drop_succ_cons, Nat.sub_zero, Nat.reduceSub]
  go_wp2_with ((with_reducible apply W_stV (b := t13) (o := 10) (v := cu2)); rfl; rfl; exact hcu1; exact M.r0; exact size40; exact Nat.le_of_ble_eq_true (by kernel_rfl); intro wS K hr3; replace HIU := hid (HIU.out.keptC K M.r0 (frG_nb _ _ _ _ _ _ _ _ _)); replace HCU := hid (HCU.out.keptC K M.r0 (frG_nb _ _ _ _ _ _ _ _ _)); rw [show ((frG 2 sb sg vn nilS iu (ad t) (ad a) wnil).toArray).setIfInBounds 10 (cu2) = (frG 2 sb sg vn cu2 iu (ad t) (ad a) wnil).toArray from by kernel_rfl] at hr3; replace M := Mem.callPut (L1 := []) M HB13 K hr3; clear K hr3; simp only [List.nil_append] at M)
  refine S_done ?_
  go_wp2_with fail
  refine (arg_q fb 0 (fs.setIfInBounds (0 + 4) lg) _ u5 xs 5 _ (M.kept.row hr hf13) h7' ((HP.out.keptC M.kept H13.out NB13.out (by decide)).s) (by omega) hu5 (by omega)).mono ?_
  rintro e w27 ⟨rfl, K⟩
  replace HIU := hid (HIU.out.kept K)
  replace HCU := hid (HCU.out.kept K)
  replace M := M.call K
  clear K
  go_wp2_with fail
  refine (arg_q fb 0 (fs.setIfInBounds (0 + 4) lg) _ u6 xs 6 _ (M.kept.row hr hf13) h7' ((HP.out.keptC M.kept H13.out NB13.out (by decide)).s) (by omega) hu6 (by omega)).mono ?_
  rintro e w28 ⟨rfl, K⟩
  replace HIU := hid (HIU.out.kept K)
  replace HCU := hid (HCU.out.kept K)
  replace M := M.call K
  clear K
  go_wp2_with fail
  have hrow := M.kept.row hr hf13
  refine (wait_any fb 0 7 0 0 (fs.setIfInBounds (0 + 4) lg) _ u5 u6 xs _ hrow h7' ((HP.out.keptC M.kept H13.out NB13.out (by decide)).s) (N5.out.keptC M.kept H13.out NB13.out) (N6.out.keptC M.kept H13.out NB13.out) (by omega) (by omega)).mono ?_
  rintro e w29 ⟨r29, p', r6, r7, rfl, K1, hr29, x1, x2, x3⟩
  have HSV := hid x1
  have HR7 := hid x3
  have hr61 := x2.one
  replace HP := hid ((HP.out.keptC M.kept H13.out NB13.out (by decide)).keptC K1 hrow HNB2.out (by decide))
  replace HLG := hid ((HLG.out.keptC M.kept H13.out NB13.out).keptC K1 hrow HNB2.out)
  replace HSG := hid ((HSG.out.keptC M.kept H13.out NB13.out).keptC K1 hrow HNB2.out)
  replace HVN := hid ((HVN.out.keptC M.kept H13.out NB13.out).keptC K1 hrow HNB2.out)
  replace HIU := hid (HIU.out.keptC K1 hrow HNB2.out)
  replace HCU := hid (HCU.out.keptC K1 hrow HNB2.out)
  replace HC := hid ((HC.out.keptK M.kept H13.out).frame K1 hrow)
  replace HA := hid ((AccD.still D).keptC ((AccD.still D).keptC HA.out M.kept H13.out NB13.out (.inr rfl)) K1 hrow HNB2.out (.inr rfl))
  have HK2 : Hid (Kept [t13, c, fb] w w29) := HK1.out.trans ((M.kept.mono (by intro k hk; simp at hk ⊢; omega)).trans (K1.mono (by simp)))
  have H13' := hid (K1.row M.r0 (by simpa using h13f))
  clear x1 x2 x3 K1 M HK1 hrow hr
  obtain ⟨fs2, hfs2⟩ : ∃ fs2, fs2 = (((fs.setIfInBounds (0 + 4) lg).setIfInBounds (0 + 8) (.slice p' (xs.length - 7) (xs.length - 7))).setIfInBounds (0 + 6) r6).setIfInBounds (0 + 7) r7 := ⟨_, rfl⟩
  rw [← hfs2] at hr29
  have HFS2 := hid hfs2
  clear hfs2
  have hs2 : fs2.size = cap * 60 := by rw [HFS2.out]; simp only [Array.size_setIfInBounds]; exact hz
  have HNB3 := hid (not_bytes_at (tc := 142) (cs := fs2) (i := 0 + 8) (p := p') (n := xs.length - 7) (m := xs.length - 7) (by rw [HFS2.out, Array.getElem?_setIfInBounds_ne (by decide), Array.getElem?_setIfInBounds_ne (by decide), Array.getElem?_setIfInBounds_self_of_lt (by simp; omega)]))
  go_wp2_with ((with_reducible apply W_loadAll); rfl; exact H13'.out; exact Salg.underlying142; rfl; exact (by kernel_rfl); simp only [Act.put, List.setIfInBounds_toArray, List.set_cons_zero, List.set_cons_succ])
  refine (enterY1 c fb cap 2 t a sb fs2 _ E rt sg vn cu2 iu (AccD D) _ HC.out (AccD.still _) hr29 HNB3.out hs2 hcap hc1 hsg1 HVN1.out hcu1 hiu1 (by decide) (fun w => creates_two w) (fun w' K' => clone_D c E _ rt _ [] D w' (HC.out.kept K') ((AccD.still D).kept HA.out K') hD0 hD20 hl0 hl2 (.inl hmd)) (fun w' K' => (move_Z c 0 (ad a) (ad t) E _ rt vn _ D da w' (HC.out.kept K') ((AccD.still D).kept HA.out K') rfl rfl (ad_small ha) (ad_small HT.out.lt) HDA.out hB (Nat.zero_le _) (hV0 ▸ HVN.out.kept K') rfl).mono fun e w'' ⟨r, he, K3⟩ => ⟨r, E.vz, he, HC.out.kept (K'.trans K3), (AccD.still D).kept HA.out (K'.trans K3), K3.mono (by simp)⟩)).mono ?_
  rintro e w30 ⟨r30, fb', cap', cur, a0, a1, a3, a6, vz, rfl, y1, y2, y3, y4, y5, y6, y6b, y6c, y7a, y7b, y7c, y7d, y8, yk⟩
  have Y1 := hid y1
  have Y2 := hid y2
  have Y4 := hid y4
  have Y5 := hid y5
  have Y8 := hid y8
  have YK := hid yk
  have hX : Hard [c, fb] w29 := by
    obtain ⟨wz, c1, _⟩ := HC.out
    intro x hx
    simp only [List.mem_cons, List.mem_singleton, List.not_mem_nil, or_false] at hx
    rcases hx with rfl | rfl
    · exact ⟨_, 119, c1, .inl rfl, chy_nb _ _ _ _⟩
    · exact ⟨_, 142, hr29, .inr rfl, HNB3.out⟩
  have HHX := hid hX
  clear y1 y2 y4 y5 y8 yk HC HA hX
  go_wp2_with fail
  go_end0
  have e2 : ∀ k, k ≠ 0 + 4 → k ≠ 0 + 6 → k ≠ 0 + 7 → k ≠ 0 + 8 → fs2[k]? = fs[k]? := by
    intro k k4 k6 k7 k8
    rw [HFS2.out, Array.getElem?_setIfInBounds_ne (by omega), Array.getElem?_setIfInBounds_ne (by omega), Array.getElem?_setIfInBounds_ne (by omega), Array.getElem?_setIfInBounds_ne (by omega)]
  have hX := HHX.out
  have hnl : xs.length - 7 = 0 := by omega
  have hK30 : Kept [c, fb] w w30 := by
    have := HK2.out
    refine ⟨YK.out.os.trans this.os, YK.out.tape.trans this.tape, YK.out.output.trans this.output, Nat.le_trans this.size YK.out.size, fun k hk hx => ?_⟩
    rw [YK.out.block k (Nat.lt_of_lt_of_le hk this.size) hx]
    refine this.block k hk ?_
    simp at hx ⊢
    refine ⟨?_, hx⟩
    rintro rfl
    have := h13w
    omega
  have HSV0 : RowV w30 89 (.slice p' (xs.length - 7) (xs.length - 7)) [] := by
    have := HSV.out.keptN YK.out hX
    rw [hnl, List.take_zero] at this
    rw [hnl]
    exact this
  refine ⟨_, fb', cap', cur, pv, lg, .slice p' (xs.length - 7) (xs.length - 7), r7, cu2, sg, vn, iu, a0, a1, a3, a6, vz, rfl, Y1.out, Y2.out, y3.imp id (fun h => Nat.le_trans HK2.out.size h), ?_, ?_, ?_, ?_, ?_, ?_, ⟨r6, ?_, hr61⟩, ⟨HP.out.p.keptN YK.out hX, HLG.out.keptN YK.out hX, HSV0, ⟨rfl, fun k v n i1 => by simp at i1⟩⟩, HR7.out.keptN YK.out hX, Y5.out, HSG.out.keptN YK.out hX, HVN.out.keptN YK.out hX, HCU.out.keptN YK.out hX, by simpa [cutB] using HIU.out.keptN YK.out hX, y6, y6b, y6c, ⟨y7a, y7b, y7c, y7d⟩, Y8.out, hK30⟩
  · intro k k60 k3 k4 k6 k7 k8 k9
    rw [Y4.out k k60, e2 k k4 k6 k7 k8]
    exact HX2.out k (by omega) (by omega) (by omega) (by omega)
  · rw [Y4.out (0 + 3) (by decide), e2 (0 + 3) (by decide) (by decide) (by decide) (by decide)]
    exact h3
  · rw [Y4.out (0 + 4) (by decide), HFS2.out, Array.getElem?_setIfInBounds_ne (by decide), Array.getElem?_setIfInBounds_ne (by decide), Array.getElem?_setIfInBounds_ne (by decide), Array.getElem?_setIfInBounds_self_of_lt z4]
  · rw [Y4.out (0 + 7) (by decide), HFS2.out, Array.getElem?_setIfInBounds_self_of_lt (by simp; omega)]
  · rw [Y4.out (0 + 8) (by decide), HFS2.out, Array.getElem?_setIfInBounds_ne (by decide), Array.getElem?_setIfInBounds_ne (by decide), Array.getElem?_setIfInBounds_self_of_lt (by simp; omega)]
  · rw [Y4.out (0 + 9) (by decide), e2 (0 + 9) (by decide) (by decide) (by decide) (by decide)]
    exact hmv
  · rw [Y4.out (0 + 6) (by decide), HFS2.out, Array.getElem?_setIfInBounds_ne (by decide), Array.getElem?_setIfInBounds_self_of_lt (by simp; omega)]

set_option maxHeartbeats 4000000 in
set_option maxRecDepth 100000 in
theorem enterCall1_call_v (c fb cap m G A t a b V : Nat) (sb : Bool) (E : XEnv) (fs0 : Array Value) (cv vv rt : Value) (la : List (List Nat)) (D : List AD) (da dt d2 : AD) (w : World) (hC : ChY w c E (.slice (some ⟨fb, 0, none⟩) 1 cap) rt la) (hA : AccD D w E.vz) (hF : FrameQ w fb 0 fs0 m G [0, 0, 0, 0, V, t, A] nilS) (hf : FrB fs0 0 sb cv) (hse : fs0.extract (0 + 12) (0 + 12 + 20) = ((ad a).map n8).toArray) (ha : a < 256) (hT : TargetOK t) (hda : D.find? (fun x => x.adr == ad a) = some da) (hdt : D.find? (fun x => x.adr == ad t) = some dt) (hB : da.B < 256 ^ 100) (hVB : V ≤ da.B) (hl0 : 0 < (adWith la (ad t)).length) (hl1 : la.length ≤ 15) (hl2 : (adWith la (ad t)).length ≤ 20) (hD0 : 0 < D.length) (hD20 : D.length ≤ 20) (hmd : E.md = nilS) (hsz : fs0.size = cap * 60) (hcap : cap ≤ maxLen) (hc1 : 1 ≤ cap) (hm : m ≤ 1000) (hG : G < 1000000) (hV0 : V ≠ 0) (hN1 : da.N ≠ 0) (hN2 : d2.N ≠ 0) (hd2 : (dPut ⟨ad a, da.N, da.B - V, da.ds⟩ false D).find? (fun x => x.adr == ad t) = some d2) (hB2 : d2.B < 256 ^ 100) (hll1 : (dPut ⟨ad a, da.N, da.B - V, da.ds⟩ false D).length ≤ 100) :
    Calls Salg.prog 194 #[.pointer (some ⟨c, 0, none⟩), .pointer (some ⟨fb, 0, none⟩), .int .u8 241] w fun e w' => ∃ (r : Value) (fb' cap' : Nat) (cur : Array Value) (pv gv sv r7 cw sg vn iu a0 a1 a3 a6 vz' : Value), e = .returned r ∧ ChY w' c { E with vz := vz' } (.slice (some ⟨fb', 0, none⟩) 2 cap') nilS (adWith la (ad t)) ∧ w'.heap[fb']? = some (.cells cur 142 (0, 0)) ∧ (fb' = fb ∨ w.heap.size ≤ fb') ∧ (∀ k, k < 60 → k ≠ 0 + 3 → k ≠ 0 + 4 → k ≠ 0 + 6 → k ≠ 0 + 7 → k ≠ 0 + 8 → k ≠ 0 + 9 → cur[k]? = fs0[k]?) ∧ cur[0 + 3]? = some pv ∧ cur[0 + 4]? = some gv ∧ cur[0 + 7]? = some r7 ∧ cur[0 + 8]? = some sv ∧ cur[0 + 9]? = some nilS ∧ (∃ r6 : Value, cur[0 + 6]? = some r6 ∧ r6.oneCell' = true) ∧ PartsV w' pv gv sv [] m (G - (min A (G - G / 64))) [] ∧ NumV w' r7 0 ∧ (∀ k, k < 60 → cur[60 + k]? = (frG 2 sb sg vn cw iu (ad t) (ad a) (wrow5 a0 a1 a3 a6))[k]?) ∧ NumV w' sg (min A (G - G / 64) + 2300) ∧ NumV w' vn V ∧ NatV w' cw dt.ds ∧ NatV w' iu [] ∧ cur.size = cap' * 60 ∧ cap' ≤ maxLen ∧ 2 ≤ cap' ∧ (a0.oneCell' = true ∧ a1.oneCell' = true ∧ a3.oneCell' = true ∧ a6.oneCell' = true) ∧ AccD (dPut ⟨ad t, d2.N, d2.B + V, d2.ds⟩ false (dPut ⟨ad a, da.N, da.B - V, da.ds⟩ false D)) w' vz' ∧ Kept [c, fb] w w' := by
  have M := Mem.start w []
  obtain ⟨fs, pv, gv, sv, xs, hr, h0, h2, h3, h4, h5, h6, h7, h8, h9, hmv⟩ := hF
  have hxl : xs.length = 7 := by have := h9.1; simpa using this
  obtain ⟨u0, hu0⟩ : ∃ u, xs[xs.length - 1 - 0]? = some u := ⟨_, List.getElem?_eq_getElem (by omega)⟩
  obtain ⟨u1, hu1⟩ : ∃ u, xs[xs.length - 1 - 1]? = some u := ⟨_, List.getElem?_eq_getElem (by omega)⟩
  obtain ⟨u2, hu2⟩ : ∃ u, xs[xs.length - 1 - 2]? = some u := ⟨_, List.getElem?_eq_getElem (by omega)⟩
  obtain ⟨u3, hu3⟩ : ∃ u, xs[xs.length - 1 - 3]? = some u := ⟨_, List.getElem?_eq_getElem (by omega)⟩
  obtain ⟨u4, hu4⟩ : ∃ u, xs[xs.length - 1 - 4]? = some u := ⟨_, List.getElem?_eq_getElem (by omega)⟩
  obtain ⟨u5, hu5⟩ : ∃ u, xs[xs.length - 1 - 5]? = some u := ⟨_, List.getElem?_eq_getElem (by omega)⟩
  obtain ⟨u6, hu6⟩ : ∃ u, xs[xs.length - 1 - 6]? = some u := ⟨_, List.getElem?_eq_getElem (by omega)⟩
  obtain ⟨p, cp, rfl⟩ : ∃ p cap, sv = .slice p xs.length cap := by
    rcases h8 with ⟨rfl, rfl⟩ | ⟨g, cap, cur, rfl, _⟩
    · exact ⟨none, 0, rfl⟩
    · exact ⟨_, _, rfl⟩
  have HNB := hid (not_bytes_at (tc := 142) h7)
  have HP : Hid (PartsV w pv gv (.slice p xs.length cp) xs m G [0, 0, 0, 0, V, t, A]) := ⟨h4, h6, h8, h9⟩
  have N0 : Hid (NumV w u0 A) := h9.2 _ _ _ hu0 (by rw [hxl]; rfl)
  have N1 : Hid (NumV w u1 t) := h9.2 _ _ _ hu1 (by rw [hxl]; rfl)
  have N2 : Hid (NumV w u2 V) := h9.2 _ _ _ hu2 (by rw [hxl]; rfl)
  have N3 : Hid (NumV w u3 0) := h9.2 _ _ _ hu3 (by rw [hxl]; rfl)
  have N4 : Hid (NumV w u4 0) := h9.2 _ _ _ hu4 (by rw [hxl]; rfl)
  have N5 : Hid (NumV w u5 0) := h9.2 _ _ _ hu5 (by rw [hxl]; rfl)
  have N6 : Hid (NumV w u6 0) := h9.2 _ _ _ hu6 (by rw [hxl]; rfl)
  have hz : fs.size = cap * 60 := h0.trans hsz
  have g2 := (h2 (0 + 2) (by decide) (by decide) (by decide) (by decide)).trans hf.f2
  have HSE : Hid (fs.extract (0 + 12) (0 + 12 + 20) = ((ad a).map n8).toArray) := by
    have e := ext_same (a := 0 + 12) (n := 20) h0 fun k k1 k2 => h2 k (by omega) (by omega) (by omega) (by omega)
    exact e.trans hse
  have HX2 := hid h2
  have HC := hid hC
  have HA := hid hA
  have HT := hid hT
  have HDA := hid hda
  have HDT := hid hdt
  have hfl := lt_of_row hr
  have hfc : fb ∉ [c] := by
    obtain ⟨wz, y, _⟩ := hC
    exact row_ne y hr (by intro h; injection h with _ h _; exact absurd h (by decide))
  have hcl : c < w.heap.size := by
    obtain ⟨_, y, _⟩ := hC
    exact lt_of_row y
  have z4 : 0 + 4 < fs.size := by omega
  have hdc : decide (cmpI da.B V < 0) = false := by
    unfold cmpI
    rw [if_neg (by omega)]
    split <;> rfl
  have HDC := hid hdc
  clear hdc
  have HD2 := hid hd2
  clear h2 h4 h6 h8 h9 hC hA hf hse h0 hT hda hdt  hd2
  go_enter Salg.func194, Salg.ntmps194
  go_wp2_with fail
  refine (arity_call _).mono ?_
  rintro e w1 ⟨rfl, hw⟩
  replace hw := hw.symm
  subst hw
  go_wp2_with fail
  refine (arg_q fb 0 fs _ u0 xs 0 _ (M.kept.row hr (by simp)) h7 (HP.out.s.kept M.kept) (by omega) hu0 (by omega)).mono ?_
  rintro e w2 ⟨rfl, K⟩
  replace M := M.call K
  clear K
  go_wp2_with fail
  refine (arg_q fb 0 fs _ u1 xs 1 _ (M.kept.row hr (by simp)) h7 (HP.out.s.kept M.kept) (by omega) hu1 (by omega)).mono ?_
  rintro e w3 ⟨rfl, K⟩
  replace M := M.call K
  clear K
  go_wp2_with fail
  refine (HT.out.adr u1 _ (N1.out.kept M.kept)).mono ?_
  rintro e w4 ⟨rfl, K⟩
  replace M := M.call K
  clear K
  go_wp2_with (first
    | ((with_reducible apply L_allocA M); exact zero45; clear M; intro t10 w5 ht10 M; simp only [Act.put, List.setIfInBounds_toArray, List.set_cons_zero, List.set_cons_succ])
    | ((with_reducible apply W_storeK (b := t10) (vs := ((ad t).map n8).toArray)); rfl; rfl; exact M.r0; exact size45; rfl; exact one8 _; intro w6 K1 hr3; replace M := Mem.callPut (L1 := []) M (Or.inr ht10) K1 hr3; clear K1 hr3; simp only [List.nil_append] at M))
  refine S_region (by kernel_rfl) ?_
  refine E_stage 0 4 [0, 1, 2, 3] (by kernel_rfl) M.drew ?_
  clear M
  simp only [List.filterMap_cons, List.filterMap_nil, List.getElem?_cons_zero, List.getElem?_cons_succ]
  ((with_reducible apply E_run); rfl; rfl; (intro w M; go_simp; (try go_ints); (try simp only [↓IntWalk.iteOmega]); (try with_reducible rfl)); simp only [Act.put, List.setIfInBounds_toArray, List.set_cons_zero, List.set_cons_succ])
  ((with_reducible apply E_run); rfl; rfl; (intro w M; go_simp; (try go_ints); (try simp only [↓IntWalk.iteOmega]); (try with_reducible rfl)); simp only [Act.put, List.setIfInBounds_toArray, List.set_cons_zero, List.set_cons_succ])
  ((with_reducible apply E_run); rfl; rfl; (intro w M; go_simp; (try go_ints); (try simp only [↓IntWalk.iteOmega]); (try with_reducible rfl)); simp only [Act.put, List.setIfInBounds_toArray, List.set_cons_zero, List.set_cons_succ])
  ((with_reducible apply E_run); rfl; rfl; (intro w M; exact run_loadAll M.r0 rfl Salg.underlying45 rfl size45); simp only [Act.put, List.setIfInBounds_toArray, List.set_cons_zero, List.set_cons_succ])
  refine E_nil ?_
  intro w7 K M
  clear K
  refine S_seg 4 5 (by kernel_rfl) (by decide) ?_
  simp only [List.take_succ_cons, List.take_zero, List.drop_zero, List.drop_succ_cons, Nat.sub_zero, Nat.reduceSub]
  go_wp2_with fail
  refine (warm_Y c t E _ rt la _ (HC.out.kept M.kept) HT.out.lt (by omega)).mono ?_
  rintro e w8 ⟨r8, rfl, x8, K1⟩
  obtain ⟨wz, c1, _⟩ := HC.out.kept M.kept
  have HO := hid (chy_nb E wz (.slice (some ⟨fb, 0, none⟩) 1 cap) rt)
  replace hr := K1.row (M.kept.row hr (by simp)) hfc
  have h10c : t10 ∉ [c] := by simp; omega
  have H10 := hid (K1.row M.r0 h10c)
  replace HP := hid ((HP.out.kept M.kept).keptC K1 c1 HO.out (by decide))
  replace HA := hid ((AccD.still D).keptC ((AccD.still D).kept HA.out M.kept) K1 c1 HO.out (.inl rfl))
  replace N0 := hid ((N0.out.kept M.kept).keptC K1 c1 HO.out)
  replace N2 := hid ((N2.out.kept M.kept).keptC K1 c1 HO.out)
  replace N3 := hid ((N3.out.kept M.kept).keptC K1 c1 HO.out)
  replace N4 := hid ((N4.out.kept M.kept).keptC K1 c1 HO.out)
  replace N5 := hid ((N5.out.kept M.kept).keptC K1 c1 HO.out)
  replace N6 := hid ((N6.out.kept M.kept).keptC K1 c1 HO.out)
  have HK : Hid (Kept [c, fb] w w8) := (M.kept.mono (by simp)).trans (K1.mono (by simp))
  replace HC : Hid (ChY w8 c E (.slice (some ⟨fb, 0, none⟩) 1 cap) rt (adWith la (ad t))) := x8
  have h10f : t10 ≠ fb := by omega
  have h10l := lt_of_row H10.out
  clear x8 K1 M c1 HO
  have M : Mem w8 [] [(t10, .cells ((ad t).map n8).toArray 45 (0, 0))] w8 := (Mem.start w8 []).add H10.out (by simp)
  go_wp2_with fail
  refine S_done ?_
  go_wp2_with fail
  refine (arg_q fb 0 fs _ u2 xs 2 _ (M.kept.row hr (by simp)) h7 (HP.out.s.kept M.kept) (by omega) hu2 (by omega)).mono ?_
  rintro e w8b ⟨rfl, K⟩
  replace M := M.call K
  clear K
  go_wp2_with fail
  refine S_region (by kernel_rfl) ?_
  refine E_float 0 13 [0, 1, 2, 3, 4, 6, 7, 8, 9, 10, 5, 11] 12 13 _ (by kernel_rfl) ⟨⟨_, _, _, _, _, rfl, zero142, rfl⟩⟩ (by simp) M.drew ?_
  clear M
  simp only [List.filterMap_cons, List.filterMap_nil, List.getElem?_cons_zero, List.getElem?_cons_succ]
  ((with_reducible apply E_run); rfl; rfl; (intro w M; go_simp; (try go_ints); (try simp only [↓IntWalk.iteOmega]); (try with_reducible rfl)); simp only [Act.put, List.setIfInBounds_toArray, List.set_cons_zero, List.set_cons_succ])
  ((with_reducible apply E_run); rfl; rfl; (intro w M; go_simp; (try go_ints); (try simp only [↓IntWalk.iteOmega]); (try with_reducible rfl)); simp only [Act.put, List.setIfInBounds_toArray, List.set_cons_zero, List.set_cons_succ])
  ((with_reducible apply E_run); rfl; rfl; (intro w M; go_simp; (try go_ints); (try simp only [↓IntWalk.iteOmega]); (try with_reducible rfl)); simp only [Act.put, List.setIfInBounds_toArray, List.set_cons_zero, List.set_cons_succ])
  ((with_reducible apply E_run); rfl; rfl; (intro w M; exact run_loadCell (M.kept.row hr (by simp)) rfl g2 Salg.underlying4 rfl); simp only [Act.put, List.setIfInBounds_toArray, List.set_cons_zero, List.set_cons_succ])
  ((with_reducible apply E_run); rfl; rfl; (intro w M; go_simp; (try go_ints); (try simp only [↓IntWalk.iteOmega]); (try with_reducible rfl)); simp only [Act.put, List.setIfInBounds_toArray, List.set_cons_zero, List.set_cons_succ])
  ((with_reducible apply E_run); rfl; rfl; (intro w M; exact run_loadAll M.r0 rfl Salg.underlying45 rfl size45); simp only [Act.put, List.setIfInBounds_toArray, List.set_cons_zero, List.set_cons_succ])
  ((with_reducible apply E_run); rfl; rfl; (intro w M; go_simp; (try go_ints); (try simp only [↓IntWalk.iteOmega]); (try with_reducible rfl)); simp only [Act.put, List.setIfInBounds_toArray, List.set_cons_zero, List.set_cons_succ])
  ((with_reducible apply E_run); rfl; rfl; (intro w M; go_simp; (try go_ints); (try simp only [↓IntWalk.iteOmega]); (try with_reducible rfl)); simp only [Act.put, List.setIfInBounds_toArray, List.set_cons_zero, List.set_cons_succ])
  ((with_reducible apply E_run); rfl; rfl; (intro w M; go_simp; (try go_ints); (try simp only [↓IntWalk.iteOmega]); (try with_reducible rfl)); simp only [Act.put, List.setIfInBounds_toArray, List.set_cons_zero, List.set_cons_succ])
  ((with_reducible apply E_run (v := .agg ((ad a).map n8).toArray)); rfl; rfl; (intro w M; exact run_loadX (n := 20) (M.kept.row hr (by simp)) rfl Salg.underlying45 rfl size45 (by omega) HSE.out); simp only [Act.put, List.setIfInBounds_toArray, List.set_cons_zero, List.set_cons_succ])
  refine E_call rfl Salg.func158 (by kernel_rfl) (by kernel_rfl) (args := [u2]) rfl ?_
  intro w1 K M
  clear K
  refine (norm_num u2 V _ (N2.out.kept M.kept)).mono ?_
  rintro e w9 ⟨vn, rfl, xHVN, K⟩
  have HVN := hid xHVN
  clear xHVN
  replace M := M.call K
  refine ⟨_, rfl, K.mono (by simp), M, ?_⟩
  clear K
  simp only [Act.put, List.setIfInBounds_toArray, List.set_cons_zero, List.set_cons_succ]
  ((with_reducible apply E_run (v := .agg (frG 2 sb nilS vn nilS nilS (ad t) (ad a) wnil).toArray)); rfl; rfl; (intro w M; obtain ⟨p0, q0, s0, e0⟩ := HVN.out.slice; subst e0; kernel_rfl); simp only [Act.put, List.setIfInBounds_toArray, List.set_cons_zero, List.set_cons_succ])
  refine E_nil ?_
  intro w10 K1 M
  replace HVN := hid (HVN.out.kept K1)
  clear K1
  intro t13 w11 K1 ht13 M
  replace HVN := hid (HVN.out.kept K1)
  clear K1
  simp only [Act.put, List.setIfInBounds_toArray, List.set_cons_zero, List.set_cons_succ]
  refine S_seg 13 14 (by kernel_rfl) (by decide) ?_
  simp only [List.take_succ_cons, List.take_zero, List.drop_zero, List.drop_succ_cons, Nat.sub_zero, Nat.reduceSub]
  have HVN1 := hid HVN.out.one
  have HB13 : t13 ∈ ([] : List Nat) ∨ w8.heap.size ≤ t13 := Or.inr ht13
  go_wp2_with ((with_reducible apply W_storeK (b := t13) (vs := (frG 2 sb nilS vn nilS nilS (ad t) (ad a) wnil).toArray)); rfl; rfl; exact M.r0; exact size142; rfl; exact frG_oneN rfl HVN1.out rfl rfl; intro w12 K1 hr3; replace HVN := hid (HVN.out.keptC K1 M.r0 (not_bytes_at (i := 3) (p := none) (n := 0) (m := 0) (by kernel_rfl))); replace M := Mem.callPut (L1 := []) M HB13 K1 hr3; clear K1 hr3; simp only [List.nil_append] at M)
  refine S_done ?_
  go_wp2_with (first
    | ((with_reducible apply W_loadCell); rfl; exact M.kept.row hr (by simp); exact h5; exact Salg.underlying89; rfl; simp only [Act.put, List.setIfInBounds_toArray, List.set_cons_zero, List.set_cons_succ]))
  refine (sentGas_any gv u0 G A _ (HP.out.g.kept M.kept) (N0.out.kept M.kept) hG).mono ?_
  rintro e w13 ⟨sg, rfl, xHSG, K⟩
  have HSG := hid xHSG
  replace HVN := hid (HVN.out.kept K)
  replace M := M.call K
  clear K xHSG
  go_wp2_with ((with_reducible apply W_loadCell); rfl; exact M.kept.row hr (by simp); exact h5; exact Salg.underlying89; rfl; simp only [Act.put, List.setIfInBounds_toArray, List.set_cons_zero, List.set_cons_succ])
  refine (less_any gv sg G _ _ (HP.out.g.kept M.kept) HSG.out (by omega) (by omega)).mono ?_
  rintro e w14 ⟨lg, rfl, xHLG, K⟩
  have HLG := hid xHLG
  replace HSG := hid (HSG.out.kept K)
  replace HVN := hid (HVN.out.kept K)
  replace M := M.call K
  clear K xHLG
  have hrow := M.kept.row hr (by simp)
  have h13f : t13 ≠ fb := by have := lt_of_row hr; omega
  have h13w : w.heap.size ≤ t13 := Nat.le_trans HK.out.size ht13
  have hsg1 := HSG.out.one
  go_wp2_with (first
    | ((with_reducible apply W_stV (b := fb) (o := 0 + 4) (v := lg)); rfl; rfl; exact HLG.out.one; exact hrow; exact size89; exact z4; intro w15a K1 hr15)
    | ((with_reducible apply W_stV (b := t13) (o := 4) (v := sg)); rfl; rfl; exact hsg1; exact K1.row M.r0 (by simpa using h13f); exact size89; exact Nat.le_of_ble_eq_true (by kernel_rfl); intro w15 K2 hr16; rw [show ((frG 2 sb nilS vn nilS nilS (ad t) (ad a) wnil).toArray).setIfInBounds 4 sg = (frG 2 sb sg vn nilS nilS (ad t) (ad a) wnil).toArray from by kernel_rfl] at hr16))
  have NB4 := hid (frG_nb 2 sb nilS vn nilS nilS (ad t) (ad a) wnil)
  have h13a := K1.row M.r0 (by simpa using h13f)
  have HNB2 := hid (not_bytes_at (tc := 142) (cs := fs.setIfInBounds (0 + 4) lg) (i := 0 + 8) ((Array.getElem?_setIfInBounds_ne (by decide)).trans h7))
  replace HP := hid (((HP.out.kept M.kept).keptC K1 hrow HNB.out (by decide)).keptC K2 h13a NB4.out (by decide))
  replace HA := hid ((AccD.still D).keptC ((AccD.still D).keptC ((AccD.still D).kept HA.out M.kept) K1 hrow HNB.out (.inr rfl)) K2 h13a NB4.out (.inr rfl))
  replace N2 := hid (((N2.out.kept M.kept).keptC K1 hrow HNB.out).keptC K2 h13a NB4.out)
  replace N3 := hid (((N3.out.kept M.kept).keptC K1 hrow HNB.out).keptC K2 h13a NB4.out)
  replace N4 := hid (((N4.out.kept M.kept).keptC K1 hrow HNB.out).keptC K2 h13a NB4.out)
  replace N5 := hid (((N5.out.kept M.kept).keptC K1 hrow HNB.out).keptC K2 h13a NB4.out)
  replace N6 := hid (((N6.out.kept M.kept).keptC K1 hrow HNB.out).keptC K2 h13a NB4.out)
  replace HSG := hid ((HSG.out.keptC K1 hrow HNB.out).keptC K2 h13a NB4.out)
  replace HVN := hid ((HVN.out.keptC K1 hrow HNB.out).keptC K2 h13a NB4.out)
  replace HLG := hid ((HLG.out.keptC K1 hrow HNB.out).keptC K2 h13a NB4.out)
  replace HC := hid (((HC.out.kept M.kept).frame K1 hrow).frame K2 h13a)
  have HK1 : Hid (Kept [t13, c, fb] w w15) := (HK.out.mono (by intro k hk; simp at hk ⊢; omega)).trans ((M.kept.mono (by simp)).trans ((K1.mono (by simp)).trans (K2.mono (by simp))))
  replace H10 := hid (K2.row (K1.row M.r1 (by simpa using h10f)) (by simpa using fun h => M.ne01 h.symm))
  have H13 := hid hr16
  have HB13 : t13 ∈ [t13] ∨ w15.heap.size ≤ t13 := Or.inl (by simp)
  have hne : t13 ≠ t10 := M.ne01
  have NB13 := hid (frG_nb 2 sb sg vn nilS nilS (ad t) (ad a) wnil)
  have hf13 : fb ∉ [t13] := by simp; omega
  replace hr := K2.row hr15 hf13
  clear K1 K2 M hrow h13a NB4 HK hr15 hr16
  have M : Mem w15 [t13] [(t13, .cells (frG 2 sb sg vn nilS nilS (ad t) (ad a) wnil).toArray 142 (0, 0)), (t10, .cells ((ad t).map n8).toArray 45 (0, 0))] w15 := ((Mem.start w15 [t13]).add H10.out (by simp)).add H13.out (by simpa using hne)
  have h7' : (fs.setIfInBounds (0 + 4) lg)[0 + 8]? = some (.slice p xs.length cp) := (Array.getElem?_setIfInBounds_ne (by decide)).trans h7
  have ha' : (fs.setIfInBounds (0 + 4) lg)[0 + 9]? = some nilS := (Array.getElem?_setIfInBounds_ne (by decide)).trans hmv
  have HSE2 : Hid ((fs.setIfInBounds (0 + 4) lg).extract (0 + 12) (0 + 12 + 20) = ((ad a).map n8).toArray) := by
    have e := ext_same (fs := fs.setIfInBounds (0 + 4) lg) (fs0 := fs) (a := 0 + 12) (n := 20) (by simp) fun k k1 k2 => Array.getElem?_setIfInBounds_ne (by omega)
    exact e.trans HSE.out
  refine (isZero_lit u2 V false (by simp; exact hV0) _ (N2.out.keptC M.kept H13.out NB13.out)).mono ?_
  rintro e w16 ⟨rfl, K⟩
  replace M := M.call K
  clear K
  go_wp2_with fail
  refine (num_int _ 2300 rfl (by decide) _).mono ?_
  rintro e w16a ⟨stp, rfl, xHSP, K⟩
  have HSP := hid xHSP
  replace M := M.call K
  clear K xHSP
  go_wp2_with fail
  refine (add_num sg stp _ 2300 _ (HSG.out.keptC M.kept H13.out NB13.out) HSP.out (by have := Nat.min_le_right A (G - G / 64); exact Nat.lt_of_le_of_lt this (Nat.lt_of_le_of_lt (Nat.sub_le _ _) (Nat.lt_of_lt_of_le hG (by decide)))) (by decide)).mono ?_
  rintro e w16b ⟨sg2, rfl, xHSG2, K⟩
  have HSG2 := hid xHSG2
  replace M := M.call K
  clear K xHSG2
  have hsg2 := HSG2.out.one
  go_wp2_with ((with_reducible apply W_stV (b := t13) (o := 4) (v := sg2)); rfl; rfl; exact hsg2; exact M.r0; exact size89; exact Nat.le_of_ble_eq_true (by kernel_rfl); intro wS K hr3; replace HSG2 := hid (HSG2.out.keptC K M.r0 (frG_nb _ _ _ _ _ _ _ _ _)); rw [show ((frG 2 sb sg vn nilS nilS (ad t) (ad a) wnil).toArray).setIfInBounds 4 sg2 = (frG 2 sb sg2 vn nilS nilS (ad t) (ad a) wnil).toArray from by kernel_rfl] at hr3; replace M := Mem.callPut (L1 := []) M HB13 K hr3; clear K hr3; simp only [List.nil_append] at M)
  have HCS := hid (HC.out.keptK M.kept H13.out)
  have HAS := hid ((AccD.still D).keptC HA.out M.kept H13.out NB13.out (.inr rfl))
  have HN2 : Hid (NumV _ u2 V) := (N2.out.keptC M.kept H13.out NB13.out)
  obtain ⟨wz, c1, _⟩ := HCS.out
  have MM := M
  replace M := M.anew []
  refine S_region (by kernel_rfl) ?_
  replace HN2 := hid (HN2.out.kept (Kept.refl [] _).drew)
  replace HSG2 := hid (HSG2.out.kept (Kept.refl [] _).drew)
  refine E_stage 0 21 [0, 1, 2, 3, 4, 5, 6, 7, 8, 9, 10, 11, 12, 13, 14, 17, 15, 16, 18, 19, 20] (by kernel_rfl) M.drew ?_
  clear M
  simp only [List.filterMap_cons, List.filterMap_nil, List.getElem?_cons_zero, List.getElem?_cons_succ]
  ((with_reducible apply E_run); rfl; rfl; (intro w M; go_simp; (try go_ints); (try simp only [↓IntWalk.iteOmega]); (try with_reducible rfl)); simp only [Act.put, List.setIfInBounds_toArray, List.set_cons_zero, List.set_cons_succ])
  ((with_reducible apply E_run); rfl; rfl; (intro w M; go_simp; (try go_ints); (try simp only [↓IntWalk.iteOmega]); (try with_reducible rfl)); simp only [Act.put, List.setIfInBounds_toArray, List.set_cons_zero, List.set_cons_succ])
  ((with_reducible apply E_run); rfl; rfl; (intro w M; go_simp; (try go_ints); (try simp only [↓IntWalk.iteOmega]); (try with_reducible rfl)); simp only [Act.put, List.setIfInBounds_toArray, List.set_cons_zero, List.set_cons_succ])
  ((with_reducible apply E_run); rfl; rfl; (intro w M; exact run_loadCell (M.kept.row c1 (by simp)) rfl (show (chN E wz (.slice (some ⟨fb, 0, none⟩) 1 cap) rt)[9]? = some (.slice (some ⟨fb, 0, none⟩) 1 cap) by kernel_rfl) Salg.underlying115 rfl); simp only [Act.put, List.setIfInBounds_toArray, List.set_cons_zero, List.set_cons_succ])
  ((with_reducible apply E_run); rfl; rfl; (intro w M; go_simp; (try go_ints); (try simp only [↓IntWalk.iteOmega]); (try with_reducible rfl)); simp only [Act.put, List.setIfInBounds_toArray, List.set_cons_zero, List.set_cons_succ])
  ((with_reducible apply E_run); rfl; rfl; (intro w M; go_simp; (try go_ints); (try simp only [↓IntWalk.iteOmega]); (try with_reducible rfl)); simp only [Act.put, List.setIfInBounds_toArray, List.set_cons_zero, List.set_cons_succ])
  ((with_reducible apply E_run); rfl; rfl; (intro w M; go_simp; (try go_ints); (try simp only [↓IntWalk.iteOmega]); (try with_reducible rfl)); simp only [Act.put, List.setIfInBounds_toArray, List.set_cons_zero, List.set_cons_succ])
  ((with_reducible apply E_run); rfl; rfl; (intro w M; go_simp; (try go_ints); (try simp only [↓IntWalk.iteOmega]); (try with_reducible rfl)); simp only [Act.put, List.setIfInBounds_toArray, List.set_cons_zero, List.set_cons_succ])
  ((with_reducible apply E_run); rfl; rfl; (intro w M; go_simp; (try go_ints); (try simp only [↓IntWalk.iteOmega]); (try with_reducible rfl)); simp only [Act.put, List.setIfInBounds_toArray, List.set_cons_zero, List.set_cons_succ])
  ((with_reducible apply E_run); rfl; rfl; (intro w M; go_simp; (try go_ints); (try simp only [↓IntWalk.iteOmega]); (try with_reducible rfl)); simp only [Act.put, List.setIfInBounds_toArray, List.set_cons_zero, List.set_cons_succ])
  ((with_reducible apply E_run); rfl; rfl; (intro w M; go_simp; (try go_ints); (try simp only [↓IntWalk.iteOmega]); (try with_reducible rfl)); simp only [Act.put, List.setIfInBounds_toArray, List.set_cons_zero, List.set_cons_succ])
  ((with_reducible apply E_run); rfl; rfl; (intro w M; go_simp; (try go_ints); (try simp only [↓IntWalk.iteOmega]); (try with_reducible rfl)); simp only [Act.put, List.setIfInBounds_toArray, List.set_cons_zero, List.set_cons_succ])
  ((with_reducible apply E_run); rfl; rfl; (intro w M; go_simp; (try go_ints); (try simp only [↓IntWalk.iteOmega]); (try with_reducible rfl)); simp only [Act.put, List.setIfInBounds_toArray, List.set_cons_zero, List.set_cons_succ])
  ((with_reducible apply E_run); rfl; rfl; (intro w M; go_simp; (try go_ints); (try simp only [↓IntWalk.iteOmega]); (try with_reducible rfl)); simp only [Act.put, List.setIfInBounds_toArray, List.set_cons_zero, List.set_cons_succ])
  ((with_reducible apply E_run (v := .agg ((ad a).map n8).toArray)); rfl; rfl; (intro w M; exact run_loadX (n := 20) (M.kept.row (MM.kept.row hr hf13) (by simp)) rfl Salg.underlying45 rfl size45 (by simp; omega) HSE2.out); simp only [Act.put, List.setIfInBounds_toArray, List.set_cons_zero, List.set_cons_succ])
  ((with_reducible apply E_run); rfl; rfl; (intro w M; go_simp; (try go_ints); (try simp only [↓IntWalk.iteOmega]); (try with_reducible rfl)); simp only [Act.put, List.setIfInBounds_toArray, List.set_cons_zero, List.set_cons_succ])
  refine E_call rfl Salg.func85 (by kernel_rfl) (by kernel_rfl) (args := [.pointer (some ⟨c, 0, none⟩), A8 (ad a)]) rfl ?_
  intro w1 K M
  replace HSG2 := hid (HSG2.out.kept K)
  replace HN2 := hid (HN2.out.kept K)
  clear K
  refine (account_D c 119 _ E.vz D da (ad a) _ (M.kept.row c1 (by simp)) (chN_get _ _ _ _ (by decide)) ((AccD.still D).kept HAS.out M.kept) rfl HDA.out).mono ?_
  rintro e w17 ⟨nva, bva, cua, rfl, xHNVa, xHB0, xHCUa, K⟩
  have HNVa := hid xHNVa
  have HB0 := hid xHB0
  have HCUa := hid xHCUa
  clear xHNVa xHB0 xHCUa
  replace HSG2 := hid (HSG2.out.kept K)
  replace HN2 := hid (HN2.out.kept K)
  replace M := M.call K
  refine ⟨_, rfl, trivial, M, ?_⟩
  clear K
  simp only [Act.put, List.setIfInBounds_toArray, List.set_cons_zero, List.set_cons_succ]
  ((with_reducible apply E_run (v := bva)); rfl; rfl; (intro w M; kernel_rfl); simp only [Act.put, List.setIfInBounds_toArray, List.set_cons_zero, List.set_cons_succ])
  refine E_call rfl Salg.func72 (by kernel_rfl) (by kernel_rfl) (args := [bva, u2]) rfl ?_
  intro w1 K M
  replace HB0 := hid (HB0.out.kept K)
  replace HSG2 := hid (HSG2.out.kept K)
  replace HN2 := hid (HN2.out.kept K)
  clear K
  refine (cmp_num bva u2 da.B V _ HB0.out HN2.out).mono ?_
  rintro e w18 ⟨rfl, K⟩
  replace HB0 := hid (HB0.out.kept K)
  replace HSG2 := hid (HSG2.out.kept K)
  replace HN2 := hid (HN2.out.kept K)
  replace M := M.call K
  refine ⟨_, rfl, trivial, M, ?_⟩
  clear K
  simp only [Act.put, List.setIfInBounds_toArray, List.set_cons_zero, List.set_cons_succ]
  ((with_reducible apply E_run (v := .bool (decide (cmpI da.B V < 0)))); rfl; rfl; (intro w M; go_simp; (try go_ints); (try with_reducible rfl)); simp only [Act.put, List.setIfInBounds_toArray, List.set_cons_zero, List.set_cons_succ])
  rw [HDC.out]
  ((with_reducible apply E_run); rfl; rfl; (intro w M; go_simp; (try go_ints); (try simp only [↓IntWalk.iteOmega]); (try with_reducible rfl)); simp only [Act.put, List.setIfInBounds_toArray, List.set_cons_zero, List.set_cons_succ])
  refine E_nil ?_
  intro w19 K M
  replace HSG2 := hid (HSG2.out.kept K)
  clear K
  refine S_done ?_
  replace M := MM.call M.kept
  clear MM HB0 HN2 c1 HCS HAS HNVa HCUa
  go_wp2_with fail
  refine (arg_q fb 0 (fs.setIfInBounds (0 + 4) lg) _ u3 xs 3 _ (M.kept.row hr hf13) h7' ((HP.out.keptC M.kept H13.out NB13.out (by decide)).s) (by omega) hu3 (by omega)).mono ?_
  rintro e w20 ⟨rfl, K⟩
  replace HSG2 := hid (HSG2.out.kept K)
  replace M := M.call K
  clear K
  go_wp2_with fail
  refine (arg_q fb 0 (fs.setIfInBounds (0 + 4) lg) _ u4 xs 4 _ (M.kept.row hr hf13) h7' ((HP.out.keptC M.kept H13.out NB13.out (by decide)).s) (by omega) hu4 (by omega)).mono ?_
  rintro e w21 ⟨rfl, K⟩
  replace HSG2 := hid (HSG2.out.kept K)
  replace M := M.call K
  clear K
  go_wp2_with fail
  refine (read_any fb 0 (fs.setIfInBounds (0 + 4) lg) nilS u3 u4 [] 0 0 _ (M.kept.row hr hf13) ha' (NatV.nil _) (N3.out.keptC M.kept H13.out NB13.out) (N4.out.keptC M.kept H13.out NB13.out) (by decide) (by decide)).mono ?_
  rintro e w22 ⟨iu, rfl, x1, _, K⟩
  have HIU := hid x1
  have hiu1 := x1.one
  replace HSG2 := hid (HSG2.out.kept K)
  replace M := M.call K
  clear K x1
  go_wp2_with (first
    | ((with_reducible apply W_stV (b := t13) (o := 11) (v := iu)); rfl; rfl; exact hiu1; exact M.r0; exact size40; exact Nat.le_of_ble_eq_true (by kernel_rfl); intro wS K hr3; replace HSG2 := hid (HSG2.out.keptC K M.r0 (frG_nb _ _ _ _ _ _ _ _ _)); replace HIU := hid (HIU.out.keptC K M.r0 (frG_nb _ _ _ _ _ _ _ _ _)); rw [show ((frG 2 sb sg2 vn nilS nilS (ad t) (ad a) wnil).toArray).setIfInBounds 11 (iu) = (frG 2 sb sg2 vn nilS iu (ad t) (ad a) wnil).toArray from by kernel_rfl] at hr3; replace M := Mem.callPut (L1 := []) M HB13 K hr3; clear K hr3; simp only [List.nil_append] at M)
    | ((with_reducible apply W_loadAll); rfl; exact M.r1; exact Salg.underlying45; rfl; exact size45; simp only [Act.put, List.setIfInBounds_toArray, List.set_cons_zero, List.set_cons_succ]))
  refine (HT.out.nat _).mono ?_
  rintro e w23 ⟨rfl, K⟩
  replace HSG2 := hid (HSG2.out.kept K)
  replace HIU := hid (HIU.out.kept K)
  replace M := M.call K
  clear K
  go_wp2_with (first
    | ((with_reducible apply W_stV (b := t13) (o := 1) (v := .int .u8 0)); rfl; rfl; exact rfl; exact M.r0; exact size5; exact Nat.le_of_ble_eq_true (by kernel_rfl); intro wS K hr3; replace HSG2 := hid (HSG2.out.keptC K M.r0 (frG_nb _ _ _ _ _ _ _ _ _)); replace HIU := hid (HIU.out.keptC K M.r0 (frG_nb _ _ _ _ _ _ _ _ _)); rw [show ((frG 2 sb sg2 vn nilS iu (ad t) (ad a) wnil).toArray).setIfInBounds 1 (.int .u8 0) = (frG 2 sb sg2 vn nilS iu (ad t) (ad a) wnil).toArray from by kernel_rfl] at hr3; replace M := Mem.callPut (L1 := []) M HB13 K hr3; clear K hr3; simp only [List.nil_append] at M)
    | ((with_reducible apply W_loadCell); rfl; exact M.r0; exact (show (frG 2 sb sg2 vn nilS iu (ad t) (ad a) wnil).toArray[1]? = some (.int .u8 0) by kernel_rfl); exact Salg.underlying5; rfl; simp only [Act.put, List.setIfInBounds_toArray, List.set_cons_zero, List.set_cons_succ]))
  have HCS := hid (HC.out.keptK M.kept H13.out)
  have HAS := hid ((AccD.still D).keptC HA.out M.kept H13.out NB13.out (.inr rfl))
  obtain ⟨wz, c1, _⟩ := HCS.out
  have MM := M
  replace M := M.anew []
  refine S_region (by kernel_rfl) ?_
  replace HSG2 := hid (HSG2.out.kept (Kept.refl [] _).drew)
  replace HIU := hid (HIU.out.kept (Kept.refl [] _).drew)
  refine E_stage 0 7 [0, 1, 2, 3, 4, 5, 6] (by kernel_rfl) M.drew ?_
  clear M
  simp only [List.filterMap_cons, List.filterMap_nil, List.getElem?_cons_zero, List.getElem?_cons_succ]
  ((with_reducible apply E_run); rfl; rfl; (intro w M; go_simp; (try go_ints); (try simp only [↓IntWalk.iteOmega]); (try with_reducible rfl)); simp only [Act.put, List.setIfInBounds_toArray, List.set_cons_zero, List.set_cons_succ])
  ((with_reducible apply E_run); rfl; rfl; (intro w M; go_simp; (try go_ints); (try simp only [↓IntWalk.iteOmega]); (try with_reducible rfl)); simp only [Act.put, List.setIfInBounds_toArray, List.set_cons_zero, List.set_cons_succ])
  ((with_reducible apply E_run); rfl; rfl; (intro w M; go_simp; (try go_ints); (try simp only [↓IntWalk.iteOmega]); (try with_reducible rfl)); simp only [Act.put, List.setIfInBounds_toArray, List.set_cons_zero, List.set_cons_succ])
  ((with_reducible apply E_run); rfl; rfl; (intro w M; exact run_loadAll M.r1 rfl Salg.underlying45 rfl size45); simp only [Act.put, List.setIfInBounds_toArray, List.set_cons_zero, List.set_cons_succ])
  refine E_call rfl Salg.func85 (by kernel_rfl) (by kernel_rfl) (args := [.pointer (some ⟨c, 0, none⟩), A8 (ad t)]) rfl ?_
  intro w1 K M
  replace HSG2 := hid (HSG2.out.kept K)
  replace HIU := hid (HIU.out.kept K)
  clear K
  refine (account_D c 119 _ E.vz D dt (ad t) _ (M.kept.row c1 (by simp)) (chN_get _ _ _ _ (by decide)) ((AccD.still D).kept HAS.out M.kept) rfl HDT.out).mono ?_
  rintro e w24 ⟨nvt, bvt, cut, rfl, xHNVt, xHBVt, xHCUt, K⟩
  have HNVt := hid xHNVt
  have HBVt := hid xHBVt
  have HCUt := hid xHCUt
  clear xHNVt xHBVt xHCUt
  replace HSG2 := hid (HSG2.out.kept K)
  replace HIU := hid (HIU.out.kept K)
  replace M := M.call K
  refine ⟨_, rfl, trivial, M, ?_⟩
  clear K
  simp only [Act.put, List.setIfInBounds_toArray, List.set_cons_zero, List.set_cons_succ]
  ((with_reducible apply E_run (v := cut)); rfl; rfl; (intro w M; kernel_rfl); simp only [Act.put, List.setIfInBounds_toArray, List.set_cons_zero, List.set_cons_succ])
  refine E_call rfl Salg.func96 (by kernel_rfl) (by kernel_rfl) (args := [cut]) rfl ?_
  intro w1 K M
  replace HCUt := hid (HCUt.out.kept K)
  replace HSG2 := hid (HSG2.out.kept K)
  replace HIU := hid (HIU.out.kept K)
  clear K
  refine (bytesOf_all cut dt.ds _ HCUt.out).mono ?_
  rintro e w25 ⟨cu2, rfl, xHCU, K⟩
  have HCU := hid xHCU
  clear xHCU
  replace HCUt := hid (HCUt.out.kept K)
  replace HSG2 := hid (HSG2.out.kept K)
  replace HIU := hid (HIU.out.kept K)
  replace M := M.call K
  refine ⟨_, rfl, trivial, M, ?_⟩
  clear K
  simp only [Act.put, List.setIfInBounds_toArray, List.set_cons_zero, List.set_cons_succ]
  refine E_nil ?_
  intro w26 K M
  replace HSG2 := hid (HSG2.out.kept K)
  replace HIU := hid (HIU.out.kept K)
  replace HCU := hid (HCU.out.kept K)
  clear K
  replace M := MM.call M.kept
  clear MM HCS HAS c1 HNVt HBVt HCUt
  have hcu1 := HCU.out.one
  refine S_seg 7 9 (by kernel_rfl) (by decide) ?_
  simp only [List.take_succ_cons, List.take_zero, List.drop_zero, List.drop_succ_cons, Nat.sub_zero, Nat.reduceSub]
  go_wp2_with ((with_reducible apply W_stV (b := t13) (o := 10) (v := cu2)); rfl; rfl; exact hcu1; exact M.r0; exact size40; exact Nat.le_of_ble_eq_true (by kernel_rfl); intro wS K hr3; replace HSG2 := hid (HSG2.out.keptC K M.r0 (frG_nb _ _ _ _ _ _ _ _ _)); replace HIU := hid (HIU.out.keptC K M.r0 (frG_nb _ _ _ _ _ _ _ _ _)); replace HCU := hid (HCU.out.keptC K M.r0 (frG_nb _ _ _ _ _ _ _ _ _)); rw [show ((frG 2 sb sg2 vn nilS iu (ad t) (ad a) wnil).toArray).setIfInBounds 10 (cu2) = (frG 2 sb sg2 vn cu2 iu (ad t) (ad a) wnil).toArray from by kernel_rfl] at hr3; replace M := Mem.callPut (L1 := []) M HB13 K hr3; clear K hr3; simp only [List.nil_append] at M)
  refine S_done ?_
  go_wp2_with fail
  refine (arg_q fb 0 (fs.setIfInBounds (0 + 4) lg) _ u5 xs 5 _ (M.kept.row hr hf13) h7' ((HP.out.keptC M.kept H13.out NB13.out (by decide)).s) (by omega) hu5 (by omega)).mono ?_
  rintro e w27 ⟨rfl, K⟩
  replace HSG2 := hid (HSG2.out.kept K)
  replace HIU := hid (HIU.out.kept K)
  replace HCU := hid (HCU.out.kept K)
  replace M := M.call K
  clear K
  go_wp2_with fail
  refine (arg_q fb 0 (fs.setIfInBounds (0 + 4) lg) _ u6 xs 6 _ (M.kept.row hr hf13) h7' ((HP.out.keptC M.kept H13.out NB13.out (by decide)).s) (by omega) hu6 (by omega)).mono ?_
  rintro e w28 ⟨rfl, K⟩
  replace HSG2 := hid (HSG2.out.kept K)
  replace HIU := hid (HIU.out.kept K)
  replace HCU := hid (HCU.out.kept K)
  replace M := M.call K
  clear K
  go_wp2_with fail
  have hrow := M.kept.row hr hf13
  refine (wait_any fb 0 7 0 0 (fs.setIfInBounds (0 + 4) lg) _ u5 u6 xs _ hrow h7' ((HP.out.keptC M.kept H13.out NB13.out (by decide)).s) (N5.out.keptC M.kept H13.out NB13.out) (N6.out.keptC M.kept H13.out NB13.out) (by omega) (by omega)).mono ?_
  rintro e w29 ⟨r29, p', r6, r7, rfl, K1, hr29, x1, x2, x3⟩
  have HSV := hid x1
  have HR7 := hid x3
  have hr61 := x2.one
  replace HP := hid ((HP.out.keptC M.kept H13.out NB13.out (by decide)).keptC K1 hrow HNB2.out (by decide))
  replace HLG := hid ((HLG.out.keptC M.kept H13.out NB13.out).keptC K1 hrow HNB2.out)
  replace HSG := hid ((HSG.out.keptC M.kept H13.out NB13.out).keptC K1 hrow HNB2.out)
  replace HVN := hid ((HVN.out.keptC M.kept H13.out NB13.out).keptC K1 hrow HNB2.out)
  replace HSG2 := hid (HSG2.out.keptC K1 hrow HNB2.out)
  replace HIU := hid (HIU.out.keptC K1 hrow HNB2.out)
  replace HCU := hid (HCU.out.keptC K1 hrow HNB2.out)
  replace HC := hid ((HC.out.keptK M.kept H13.out).frame K1 hrow)
  replace HA := hid ((AccD.still D).keptC ((AccD.still D).keptC HA.out M.kept H13.out NB13.out (.inr rfl)) K1 hrow HNB2.out (.inr rfl))
  have HK2 : Hid (Kept [t13, c, fb] w w29) := HK1.out.trans ((M.kept.mono (by intro k hk; simp at hk ⊢; omega)).trans (K1.mono (by simp)))
  have H13' := hid (K1.row M.r0 (by simpa using h13f))
  clear x1 x2 x3 K1 M HK1 hrow hr
  obtain ⟨fs2, hfs2⟩ : ∃ fs2, fs2 = (((fs.setIfInBounds (0 + 4) lg).setIfInBounds (0 + 8) (.slice p' (xs.length - 7) (xs.length - 7))).setIfInBounds (0 + 6) r6).setIfInBounds (0 + 7) r7 := ⟨_, rfl⟩
  rw [← hfs2] at hr29
  have HFS2 := hid hfs2
  clear hfs2
  have hs2 : fs2.size = cap * 60 := by rw [HFS2.out]; simp only [Array.size_setIfInBounds]; exact hz
  have HNB3 := hid (not_bytes_at (tc := 142) (cs := fs2) (i := 0 + 8) (p := p') (n := xs.length - 7) (m := xs.length - 7) (by rw [HFS2.out, Array.getElem?_setIfInBounds_ne (by decide), Array.getElem?_setIfInBounds_ne (by decide), Array.getElem?_setIfInBounds_self_of_lt (by simp; omega)]))
  go_wp2_with ((with_reducible apply W_loadAll); rfl; exact H13'.out; exact Salg.underlying142; rfl; exact (by kernel_rfl); simp only [Act.put, List.setIfInBounds_toArray, List.set_cons_zero, List.set_cons_succ])
  refine (enterY1 c fb cap 2 t a sb fs2 _ E rt sg2 vn cu2 iu (AccD (dPut ⟨ad t, d2.N, d2.B + V, d2.ds⟩ false (dPut ⟨ad a, da.N, da.B - V, da.ds⟩ false D))) _ HC.out (AccD.still _) hr29 HNB3.out hs2 hcap hc1 HSG2.out.one HVN1.out hcu1 hiu1 (by decide) (fun w => creates_two w) (fun w' K' => clone_D c E _ rt _ [] D w' (HC.out.kept K') ((AccD.still D).kept HA.out K') hD0 hD20 hl0 hl2 (.inl hmd)) (fun w' K' => move_V c V (ad a) (ad t) E _ rt vn _ D da d2 w' (HC.out.kept K') ((AccD.still D).kept HA.out K') rfl rfl (ad_small ha) (ad_small HT.out.lt) HDA.out hB hVB (HVN.out.kept K') hV0 hN1 hN2 HD2.out hB2 (by omega) hll1)).mono ?_
  rintro e w30 ⟨r30, fb', cap', cur, a0, a1, a3, a6, vz, rfl, y1, y2, y3, y4, y5, y6, y6b, y6c, y7a, y7b, y7c, y7d, y8, yk⟩
  have Y1 := hid y1
  have Y2 := hid y2
  have Y4 := hid y4
  have Y5 := hid y5
  have Y8 := hid y8
  have YK := hid yk
  have hX : Hard [c, fb] w29 := by
    obtain ⟨wz, c1, _⟩ := HC.out
    intro x hx
    simp only [List.mem_cons, List.mem_singleton, List.not_mem_nil, or_false] at hx
    rcases hx with rfl | rfl
    · exact ⟨_, 119, c1, .inl rfl, chy_nb _ _ _ _⟩
    · exact ⟨_, 142, hr29, .inr rfl, HNB3.out⟩
  have HHX := hid hX
  clear y1 y2 y4 y5 y8 yk HC HA hX
  go_wp2_with fail
  go_end0
  have e2 : ∀ k, k ≠ 0 + 4 → k ≠ 0 + 6 → k ≠ 0 + 7 → k ≠ 0 + 8 → fs2[k]? = fs[k]? := by
    intro k k4 k6 k7 k8
    rw [HFS2.out, Array.getElem?_setIfInBounds_ne (by omega), Array.getElem?_setIfInBounds_ne (by omega), Array.getElem?_setIfInBounds_ne (by omega), Array.getElem?_setIfInBounds_ne (by omega)]
  have hX := HHX.out
  have hnl : xs.length - 7 = 0 := by omega
  have hK30 : Kept [c, fb] w w30 := by
    have := HK2.out
    refine ⟨YK.out.os.trans this.os, YK.out.tape.trans this.tape, YK.out.output.trans this.output, Nat.le_trans this.size YK.out.size, fun k hk hx => ?_⟩
    rw [YK.out.block k (Nat.lt_of_lt_of_le hk this.size) hx]
    refine this.block k hk ?_
    simp at hx ⊢
    refine ⟨?_, hx⟩
    rintro rfl
    have := h13w
    omega
  have HSV0 : RowV w30 89 (.slice p' (xs.length - 7) (xs.length - 7)) [] := by
    have := HSV.out.keptN YK.out hX
    rw [hnl, List.take_zero] at this
    rw [hnl]
    exact this
  refine ⟨_, fb', cap', cur, pv, lg, .slice p' (xs.length - 7) (xs.length - 7), r7, cu2, sg2, vn, iu, a0, a1, a3, a6, vz, rfl, Y1.out, Y2.out, y3.imp id (fun h => Nat.le_trans HK2.out.size h), ?_, ?_, ?_, ?_, ?_, ?_, ⟨r6, ?_, hr61⟩, ⟨HP.out.p.keptN YK.out hX, HLG.out.keptN YK.out hX, HSV0, ⟨rfl, fun k v n i1 => by simp at i1⟩⟩, HR7.out.keptN YK.out hX, Y5.out, HSG2.out.keptN YK.out hX, HVN.out.keptN YK.out hX, HCU.out.keptN YK.out hX, by simpa [cutB] using HIU.out.keptN YK.out hX, y6, y6b, y6c, ⟨y7a, y7b, y7c, y7d⟩, Y8.out, hK30⟩
  · intro k k60 k3 k4 k6 k7 k8 k9
    rw [Y4.out k k60, e2 k k4 k6 k7 k8]
    exact HX2.out k (by omega) (by omega) (by omega) (by omega)
  · rw [Y4.out (0 + 3) (by decide), e2 (0 + 3) (by decide) (by decide) (by decide) (by decide)]
    exact h3
  · rw [Y4.out (0 + 4) (by decide), HFS2.out, Array.getElem?_setIfInBounds_ne (by decide), Array.getElem?_setIfInBounds_ne (by decide), Array.getElem?_setIfInBounds_ne (by decide), Array.getElem?_setIfInBounds_self_of_lt z4]
  · rw [Y4.out (0 + 7) (by decide), HFS2.out, Array.getElem?_setIfInBounds_self_of_lt (by simp; omega)]
  · rw [Y4.out (0 + 8) (by decide), HFS2.out, Array.getElem?_setIfInBounds_ne (by decide), Array.getElem?_setIfInBounds_ne (by decide), Array.getElem?_setIfInBounds_self_of_lt (by simp; omega)]
  · rw [Y4.out (0 + 9) (by decide), e2 (0 + 9) (by decide) (by decide) (by decide) (by decide)]
    exact hmv
  · rw [Y4.out (0 + 6) (by decide), HFS2.out, Array.getElem?_setIfInBounds_ne (by decide), Array.getElem?_setIfInBounds_self_of_lt (by simp; omega)]

set_option maxHeartbeats 4000000 in
set_option maxRecDepth 100000 in
theorem enterCall1_delegatecall (c fb cap m G A t a b V : Nat) (sb : Bool) (E : XEnv) (fs0 : Array Value) (cv vv rt : Value) (la : List (List Nat)) (D : List AD) (da dt d2 : AD) (w : World) (hC : ChY w c E (.slice (some ⟨fb, 0, none⟩) 1 cap) rt la) (hA : AccD D w E.vz) (hF : FrameQ w fb 0 fs0 m G [0, 0, 0, 0, t, A] nilS) (hf : FrB fs0 0 sb cv) (hse : fs0.extract (0 + 12) (0 + 12 + 20) = ((ad a).map n8).toArray) (hca : fs0.extract (0 + 32) (0 + 32 + 20) = ((ad b).map n8).toArray) (h5v : fs0[0 + 5]? = some vv) (hvv : vv.oneCell' = true) (ha : a < 256) (hT : TargetOK t) (hda : D.find? (fun x => x.adr == ad a) = some da) (hdt : D.find? (fun x => x.adr == ad t) = some dt) (hB : da.B < 256 ^ 100) (hVB : V ≤ da.B) (hl0 : 0 < (adWith la (ad t)).length) (hl1 : la.length ≤ 15) (hl2 : (adWith la (ad t)).length ≤ 20) (hD0 : 0 < D.length) (hD20 : D.length ≤ 20) (hmd : E.md = nilS) (hsz : fs0.size = cap * 60) (hcap : cap ≤ maxLen) (hc1 : 1 ≤ cap) (hm : m ≤ 1000) (hG : G < 1000000) :
    Calls Salg.prog 194 #[.pointer (some ⟨c, 0, none⟩), .pointer (some ⟨fb, 0, none⟩), .int .u8 244] w fun e w' => ∃ (r : Value) (fb' cap' : Nat) (cur : Array Value) (pv gv sv r7 cw sg vn iu a0 a1 a3 a6 vz' : Value), e = .returned r ∧ ChY w' c { E with vz := vz' } (.slice (some ⟨fb', 0, none⟩) 2 cap') nilS (adWith la (ad t)) ∧ w'.heap[fb']? = some (.cells cur 142 (0, 0)) ∧ (fb' = fb ∨ w.heap.size ≤ fb') ∧ (∀ k, k < 60 → k ≠ 0 + 3 → k ≠ 0 + 4 → k ≠ 0 + 6 → k ≠ 0 + 7 → k ≠ 0 + 8 → k ≠ 0 + 9 → cur[k]? = fs0[k]?) ∧ cur[0 + 3]? = some pv ∧ cur[0 + 4]? = some gv ∧ cur[0 + 7]? = some r7 ∧ cur[0 + 8]? = some sv ∧ cur[0 + 9]? = some nilS ∧ (∃ r6 : Value, cur[0 + 6]? = some r6 ∧ r6.oneCell' = true) ∧ PartsV w' pv gv sv [] m (G - (min A (G - G / 64))) [] ∧ NumV w' r7 0 ∧ (∀ k, k < 60 → cur[60 + k]? = (frG 3 sb sg vv cw iu (ad a) (ad b) (wrow5 a0 a1 a3 a6))[k]?) ∧ NumV w' sg (min A (G - G / 64)) ∧ True ∧ NatV w' cw dt.ds ∧ NatV w' iu [] ∧ cur.size = cap' * 60 ∧ cap' ≤ maxLen ∧ 2 ≤ cap' ∧ (a0.oneCell' = true ∧ a1.oneCell' = true ∧ a3.oneCell' = true ∧ a6.oneCell' = true) ∧ AccD D w' vz' ∧ Kept [c, fb] w w' := by
  have M := Mem.start w []
  obtain ⟨fs, pv, gv, sv, xs, hr, h0, h2, h3, h4, h5, h6, h7, h8, h9, hmv⟩ := hF
  have hxl : xs.length = 6 := by have := h9.1; simpa using this
  obtain ⟨u0, hu0⟩ : ∃ u, xs[xs.length - 1 - 0]? = some u := ⟨_, List.getElem?_eq_getElem (by omega)⟩
  obtain ⟨u1, hu1⟩ : ∃ u, xs[xs.length - 1 - 1]? = some u := ⟨_, List.getElem?_eq_getElem (by omega)⟩
  obtain ⟨u2, hu2⟩ : ∃ u, xs[xs.length - 1 - 2]? = some u := ⟨_, List.getElem?_eq_getElem (by omega)⟩
  obtain ⟨u3, hu3⟩ : ∃ u, xs[xs.length - 1 - 3]? = some u := ⟨_, List.getElem?_eq_getElem (by omega)⟩
  obtain ⟨u4, hu4⟩ : ∃ u, xs[xs.length - 1 - 4]? = some u := ⟨_, List.getElem?_eq_getElem (by omega)⟩
  obtain ⟨u5, hu5⟩ : ∃ u, xs[xs.length - 1 - 5]? = some u := ⟨_, List.getElem?_eq_getElem (by omega)⟩
  obtain ⟨p, cp, rfl⟩ : ∃ p cap, sv = .slice p xs.length cap := by
    rcases h8 with ⟨rfl, rfl⟩ | ⟨g, cap, cur, rfl, _⟩
    · exact ⟨none, 0, rfl⟩
    · exact ⟨_, _, rfl⟩
  have HNB := hid (not_bytes_at (tc := 142) h7)
  have HP : Hid (PartsV w pv gv (.slice p xs.length cp) xs m G [0, 0, 0, 0, t, A]) := ⟨h4, h6, h8, h9⟩
  have N0 : Hid (NumV w u0 A) := h9.2 _ _ _ hu0 (by rw [hxl]; rfl)
  have N1 : Hid (NumV w u1 t) := h9.2 _ _ _ hu1 (by rw [hxl]; rfl)
  have N2 : Hid (NumV w u2 0) := h9.2 _ _ _ hu2 (by rw [hxl]; rfl)
  have N3 : Hid (NumV w u3 0) := h9.2 _ _ _ hu3 (by rw [hxl]; rfl)
  have N4 : Hid (NumV w u4 0) := h9.2 _ _ _ hu4 (by rw [hxl]; rfl)
  have N5 : Hid (NumV w u5 0) := h9.2 _ _ _ hu5 (by rw [hxl]; rfl)
  have hz : fs.size = cap * 60 := h0.trans hsz
  have g2 := (h2 (0 + 2) (by decide) (by decide) (by decide) (by decide)).trans hf.f2
  have HSE : Hid (fs.extract (0 + 12) (0 + 12 + 20) = ((ad a).map n8).toArray) := by
    have e := ext_same (a := 0 + 12) (n := 20) h0 fun k k1 k2 => h2 k (by omega) (by omega) (by omega) (by omega)
    exact e.trans hse
  have HCA : Hid (fs.extract (0 + 32) (0 + 32 + 20) = ((ad b).map n8).toArray) := by
    have e := ext_same (a := 0 + 32) (n := 20) h0 fun k k1 k2 => h2 k (by omega) (by omega) (by omega) (by omega)
    exact e.trans hca
  have g5 := (h2 (0 + 5) (by decide) (by decide) (by decide) (by decide)).trans h5v
  have HX2 := hid h2
  have HC := hid hC
  have HA := hid hA
  have HT := hid hT
  have HDA := hid hda
  have HDT := hid hdt
  have hfl := lt_of_row hr
  have hfc : fb ∉ [c] := by
    obtain ⟨wz, y, _⟩ := hC
    exact row_ne y hr (by intro h; injection h with _ h _; exact absurd h (by decide))
  have hcl : c < w.heap.size := by
    obtain ⟨_, y, _⟩ := hC
    exact lt_of_row y
  have z4 : 0 + 4 < fs.size := by omega
  have hdc : decide (cmpI da.B 0 < 0) = false := by
    unfold cmpI
    rw [if_neg (by omega)]
    split <;> rfl
  have HDC := hid hdc
  clear hdc
  clear h2 h4 h6 h8 h9 hC hA hf hse h0 hT hda hdt hca h5v 
  go_enter Salg.func194, Salg.ntmps194
  go_wp2_with fail
  refine (arity_delegatecall _).mono ?_
  rintro e w1 ⟨rfl, hw⟩
  replace hw := hw.symm
  subst hw
  go_wp2_with fail
  refine (arg_q fb 0 fs _ u0 xs 0 _ (M.kept.row hr (by simp)) h7 (HP.out.s.kept M.kept) (by omega) hu0 (by omega)).mono ?_
  rintro e w2 ⟨rfl, K⟩
  replace M := M.call K
  clear K
  go_wp2_with fail
  refine (arg_q fb 0 fs _ u1 xs 1 _ (M.kept.row hr (by simp)) h7 (HP.out.s.kept M.kept) (by omega) hu1 (by omega)).mono ?_
  rintro e w3 ⟨rfl, K⟩
  replace M := M.call K
  clear K
  go_wp2_with fail
  refine (HT.out.adr u1 _ (N1.out.kept M.kept)).mono ?_
  rintro e w4 ⟨rfl, K⟩
  replace M := M.call K
  clear K
  go_wp2_with (first
    | ((with_reducible apply L_allocA M); exact zero45; clear M; intro t10 w5 ht10 M; simp only [Act.put, List.setIfInBounds_toArray, List.set_cons_zero, List.set_cons_succ])
    | ((with_reducible apply W_storeK (b := t10) (vs := ((ad t).map n8).toArray)); rfl; rfl; exact M.r0; exact size45; rfl; exact one8 _; intro w6 K1 hr3; replace M := Mem.callPut (L1 := []) M (Or.inr ht10) K1 hr3; clear K1 hr3; simp only [List.nil_append] at M))
  refine S_region (by kernel_rfl) ?_
  refine E_stage 0 4 [0, 1, 2, 3] (by kernel_rfl) M.drew ?_
  clear M
  simp only [List.filterMap_cons, List.filterMap_nil, List.getElem?_cons_zero, List.getElem?_cons_succ]
  ((with_reducible apply E_run); rfl; rfl; (intro w M; go_simp; (try go_ints); (try simp only [↓IntWalk.iteOmega]); (try with_reducible rfl)); simp only [Act.put, List.setIfInBounds_toArray, List.set_cons_zero, List.set_cons_succ])
  ((with_reducible apply E_run); rfl; rfl; (intro w M; go_simp; (try go_ints); (try simp only [↓IntWalk.iteOmega]); (try with_reducible rfl)); simp only [Act.put, List.setIfInBounds_toArray, List.set_cons_zero, List.set_cons_succ])
  ((with_reducible apply E_run); rfl; rfl; (intro w M; go_simp; (try go_ints); (try simp only [↓IntWalk.iteOmega]); (try with_reducible rfl)); simp only [Act.put, List.setIfInBounds_toArray, List.set_cons_zero, List.set_cons_succ])
  ((with_reducible apply E_run); rfl; rfl; (intro w M; exact run_loadAll M.r0 rfl Salg.underlying45 rfl size45); simp only [Act.put, List.setIfInBounds_toArray, List.set_cons_zero, List.set_cons_succ])
  refine E_nil ?_
  intro w7 K M
  clear K
  refine S_seg 4 5 (by kernel_rfl) (by decide) ?_
  simp only [List.take_succ_cons, List.take_zero, List.drop_zero, List.drop_succ_cons, Nat.sub_zero, Nat.reduceSub]
  go_wp2_with fail
  refine (warm_Y c t E _ rt la _ (HC.out.kept M.kept) HT.out.lt (by omega)).mono ?_
  rintro e w8 ⟨r8, rfl, x8, K1⟩
  obtain ⟨wz, c1, _⟩ := HC.out.kept M.kept
  have HO := hid (chy_nb E wz (.slice (some ⟨fb, 0, none⟩) 1 cap) rt)
  replace hr := K1.row (M.kept.row hr (by simp)) hfc
  have h10c : t10 ∉ [c] := by simp; omega
  have H10 := hid (K1.row M.r0 h10c)
  replace HP := hid ((HP.out.kept M.kept).keptC K1 c1 HO.out (by decide))
  replace HA := hid ((AccD.still D).keptC ((AccD.still D).kept HA.out M.kept) K1 c1 HO.out (.inl rfl))
  replace N0 := hid ((N0.out.kept M.kept).keptC K1 c1 HO.out)
  replace N2 := hid ((N2.out.kept M.kept).keptC K1 c1 HO.out)
  replace N3 := hid ((N3.out.kept M.kept).keptC K1 c1 HO.out)
  replace N4 := hid ((N4.out.kept M.kept).keptC K1 c1 HO.out)
  replace N5 := hid ((N5.out.kept M.kept).keptC K1 c1 HO.out)
  have HK : Hid (Kept [c, fb] w w8) := (M.kept.mono (by simp)).trans (K1.mono (by simp))
  replace HC : Hid (ChY w8 c E (.slice (some ⟨fb, 0, none⟩) 1 cap) rt (adWith la (ad t))) := x8
  have h10f : t10 ≠ fb := by omega
  have h10l := lt_of_row H10.out
  clear x8 K1 M c1 HO
  have M : Mem w8 [] [(t10, .cells ((ad t).map n8).toArray 45 (0, 0))] w8 := (Mem.start w8 []).add H10.out (by simp)
  go_wp2_with fail
  refine S_done ?_
  go_wp2_with fail
  refine S_region (by kernel_rfl) ?_
  refine E_float 0 13 [0, 1, 2, 3, 4, 6, 7, 8, 9, 10, 5, 11] 12 13 _ (by kernel_rfl) ⟨⟨_, _, _, _, _, rfl, zero142, rfl⟩⟩ (by simp) M.drew ?_
  clear M
  simp only [List.filterMap_cons, List.filterMap_nil, List.getElem?_cons_zero, List.getElem?_cons_succ]
  ((with_reducible apply E_run); rfl; rfl; (intro w M; go_simp; (try go_ints); (try simp only [↓IntWalk.iteOmega]); (try with_reducible rfl)); simp only [Act.put, List.setIfInBounds_toArray, List.set_cons_zero, List.set_cons_succ])
  ((with_reducible apply E_run); rfl; rfl; (intro w M; go_simp; (try go_ints); (try simp only [↓IntWalk.iteOmega]); (try with_reducible rfl)); simp only [Act.put, List.setIfInBounds_toArray, List.set_cons_zero, List.set_cons_succ])
  ((with_reducible apply E_run); rfl; rfl; (intro w M; go_simp; (try go_ints); (try simp only [↓IntWalk.iteOmega]); (try with_reducible rfl)); simp only [Act.put, List.setIfInBounds_toArray, List.set_cons_zero, List.set_cons_succ])
  ((with_reducible apply E_run); rfl; rfl; (intro w M; exact run_loadCell (M.kept.row hr (by simp)) rfl g2 Salg.underlying4 rfl); simp only [Act.put, List.setIfInBounds_toArray, List.set_cons_zero, List.set_cons_succ])
  ((with_reducible apply E_run); rfl; rfl; (intro w M; go_simp; (try go_ints); (try simp only [↓IntWalk.iteOmega]); (try with_reducible rfl)); simp only [Act.put, List.setIfInBounds_toArray, List.set_cons_zero, List.set_cons_succ])
  ((with_reducible apply E_run); rfl; rfl; (intro w M; exact run_loadAll M.r0 rfl Salg.underlying45 rfl size45); simp only [Act.put, List.setIfInBounds_toArray, List.set_cons_zero, List.set_cons_succ])
  ((with_reducible apply E_run); rfl; rfl; (intro w M; go_simp; (try go_ints); (try simp only [↓IntWalk.iteOmega]); (try with_reducible rfl)); simp only [Act.put, List.setIfInBounds_toArray, List.set_cons_zero, List.set_cons_succ])
  ((with_reducible apply E_run); rfl; rfl; (intro w M; go_simp; (try go_ints); (try simp only [↓IntWalk.iteOmega]); (try with_reducible rfl)); simp only [Act.put, List.setIfInBounds_toArray, List.set_cons_zero, List.set_cons_succ])
  ((with_reducible apply E_run); rfl; rfl; (intro w M; go_simp; (try go_ints); (try simp only [↓IntWalk.iteOmega]); (try with_reducible rfl)); simp only [Act.put, List.setIfInBounds_toArray, List.set_cons_zero, List.set_cons_succ])
  ((with_reducible apply E_run (v := .agg ((ad a).map n8).toArray)); rfl; rfl; (intro w M; exact run_loadX (n := 20) (M.kept.row hr (by simp)) rfl Salg.underlying45 rfl size45 (by omega) HSE.out); simp only [Act.put, List.setIfInBounds_toArray, List.set_cons_zero, List.set_cons_succ])
  refine E_call rfl Salg.func158 (by kernel_rfl) (by kernel_rfl) (args := [(.slice none 0 0)]) rfl ?_
  intro w1 K M
  clear K
  refine (norm_num (.slice none 0 0) 0 _ (nil_num _)).mono ?_
  rintro e w9 ⟨vn, rfl, xHVN, K⟩
  have HVN := hid xHVN
  clear xHVN
  replace M := M.call K
  refine ⟨_, rfl, K.mono (by simp), M, ?_⟩
  clear K
  simp only [Act.put, List.setIfInBounds_toArray, List.set_cons_zero, List.set_cons_succ]
  ((with_reducible apply E_run (v := .agg (frG 2 sb nilS vn nilS nilS (ad t) (ad a) wnil).toArray)); rfl; rfl; (intro w M; obtain ⟨p0, q0, s0, e0⟩ := HVN.out.slice; subst e0; kernel_rfl); simp only [Act.put, List.setIfInBounds_toArray, List.set_cons_zero, List.set_cons_succ])
  refine E_nil ?_
  intro w10 K1 M
  replace HVN := hid (HVN.out.kept K1)
  clear K1
  intro t13 w11 K1 ht13 M
  replace HVN := hid (HVN.out.kept K1)
  clear K1
  simp only [Act.put, List.setIfInBounds_toArray, List.set_cons_zero, List.set_cons_succ]
  refine S_seg 13 14 (by kernel_rfl) (by decide) ?_
  simp only [List.take_succ_cons, List.take_zero, List.drop_zero, List.drop_succ_cons, Nat.sub_zero, Nat.reduceSub]
  have HVN1 := hid HVN.out.one
  have HB13 : t13 ∈ ([] : List Nat) ∨ w8.heap.size ≤ t13 := Or.inr ht13
  go_wp2_with ((with_reducible apply W_storeK (b := t13) (vs := (frG 2 sb nilS vn nilS nilS (ad t) (ad a) wnil).toArray)); rfl; rfl; exact M.r0; exact size142; rfl; exact frG_oneN rfl HVN1.out rfl rfl; intro w12 K1 hr3; replace HVN := hid (HVN.out.keptC K1 M.r0 (not_bytes_at (i := 3) (p := none) (n := 0) (m := 0) (by kernel_rfl))); replace M := Mem.callPut (L1 := []) M HB13 K1 hr3; clear K1 hr3; simp only [List.nil_append] at M)
  refine S_done ?_
  go_wp2_with (first
    | ((with_reducible apply W_stV (b := t13) (o := 0) (v := .int .u8 3)); rfl; rfl; exact rfl; exact M.r0; exact size5; exact Nat.le_of_ble_eq_true (by kernel_rfl); intro wS K hr3; replace HVN := hid (HVN.out.keptC K M.r0 (frG_nb _ _ _ _ _ _ _ _ _)); rw [show ((frG 2 sb nilS vn nilS nilS (ad t) (ad a) wnil).toArray).setIfInBounds 0 (.int .u8 3) = (frG 3 sb nilS vn nilS nilS (ad t) (ad a) wnil).toArray from by kernel_rfl] at hr3; replace M := Mem.callPut (L1 := []) M HB13 K hr3; clear K hr3; simp only [List.nil_append] at M)
    | ((with_reducible apply W_loadCell); rfl; exact M.kept.row hr (by simp); exact g5; exact Salg.underlying89; rfl; simp only [Act.put, List.setIfInBounds_toArray, List.set_cons_zero, List.set_cons_succ])
    | ((with_reducible apply W_stV (b := t13) (o := 5) (v := vv)); rfl; rfl; exact hvv; exact M.r0; exact size89; exact Nat.le_of_ble_eq_true (by kernel_rfl); intro wS K hr3; replace HVN := hid (HVN.out.keptC K M.r0 (frG_nb _ _ _ _ _ _ _ _ _)); rw [show ((frG 3 sb nilS vn nilS nilS (ad t) (ad a) wnil).toArray).setIfInBounds 5 (vv) = (frG 3 sb nilS vv nilS nilS (ad t) (ad a) wnil).toArray from by kernel_rfl] at hr3; replace M := Mem.callPut (L1 := []) M HB13 K hr3; clear K hr3; simp only [List.nil_append] at M)
    | ((with_reducible apply W_loadX (o := 0 + 12) (n := 20) (vs := ((ad a).map n8).toArray)); rfl; exact M.kept.row hr (by simp); exact Salg.underlying45; rfl; exact size45; omega; exact HSE.out; simp only [Act.put, List.setIfInBounds_toArray, List.set_cons_zero, List.set_cons_succ])
    | ((with_reducible apply W_stP (b := t13) (o := 12) (n := 20) (v := .agg ((ad a).map n8).toArray) (rs := (frG 3 sb nilS vv nilS nilS (ad a) (ad a) wnil).toArray)); rfl; rfl; exact M.r0; exact size45; rfl; exact one8 _; exact Nat.le_of_ble_eq_true (by kernel_rfl); kernel_rfl; intro wS K hr3; replace HVN := hid (HVN.out.keptC K M.r0 (frG_nb _ _ _ _ _ _ _ _ _)); replace M := Mem.callPut (L1 := []) M HB13 K hr3; clear K hr3; simp only [List.nil_append] at M)
    | ((with_reducible apply W_loadX (o := 0 + 32) (n := 20) (vs := ((ad b).map n8).toArray)); rfl; exact M.kept.row hr (by simp); exact Salg.underlying45; rfl; exact size45; omega; exact HCA.out; simp only [Act.put, List.setIfInBounds_toArray, List.set_cons_zero, List.set_cons_succ])
    | ((with_reducible apply W_stP (b := t13) (o := 32) (n := 20) (v := .agg ((ad b).map n8).toArray) (rs := (frG 3 sb nilS vv nilS nilS (ad a) (ad b) wnil).toArray)); rfl; rfl; exact M.r0; exact size45; rfl; exact one8 _; exact Nat.le_of_ble_eq_true (by kernel_rfl); kernel_rfl; intro wS K hr3; replace HVN := hid (HVN.out.keptC K M.r0 (frG_nb _ _ _ _ _ _ _ _ _)); replace M := Mem.callPut (L1 := []) M HB13 K hr3; clear K hr3; simp only [List.nil_append] at M)
    | ((with_reducible apply W_loadCell); rfl; exact M.kept.row hr (by simp); exact h5; exact Salg.underlying89; rfl; simp only [Act.put, List.setIfInBounds_toArray, List.set_cons_zero, List.set_cons_succ]))
  refine (sentGas_any gv u0 G A _ (HP.out.g.kept M.kept) (N0.out.kept M.kept) hG).mono ?_
  rintro e w13 ⟨sg, rfl, xHSG, K⟩
  have HSG := hid xHSG
  replace HVN := hid (HVN.out.kept K)
  replace M := M.call K
  clear K xHSG
  go_wp2_with ((with_reducible apply W_loadCell); rfl; exact M.kept.row hr (by simp); exact h5; exact Salg.underlying89; rfl; simp only [Act.put, List.setIfInBounds_toArray, List.set_cons_zero, List.set_cons_succ])
  refine (less_any gv sg G _ _ (HP.out.g.kept M.kept) HSG.out (by omega) (by omega)).mono ?_
  rintro e w14 ⟨lg, rfl, xHLG, K⟩
  have HLG := hid xHLG
  replace HSG := hid (HSG.out.kept K)
  replace HVN := hid (HVN.out.kept K)
  replace M := M.call K
  clear K xHLG
  have hrow := M.kept.row hr (by simp)
  have h13f : t13 ≠ fb := by have := lt_of_row hr; omega
  have h13w : w.heap.size ≤ t13 := Nat.le_trans HK.out.size ht13
  have hsg1 := HSG.out.one
  go_wp2_with (first
    | ((with_reducible apply W_stV (b := fb) (o := 0 + 4) (v := lg)); rfl; rfl; exact HLG.out.one; exact hrow; exact size89; exact z4; intro w15a K1 hr15)
    | ((with_reducible apply W_stV (b := t13) (o := 4) (v := sg)); rfl; rfl; exact hsg1; exact K1.row M.r0 (by simpa using h13f); exact size89; exact Nat.le_of_ble_eq_true (by kernel_rfl); intro w15 K2 hr16; rw [show ((frG 3 sb nilS vv nilS nilS (ad a) (ad b) wnil).toArray).setIfInBounds 4 sg = (frG 3 sb sg vv nilS nilS (ad a) (ad b) wnil).toArray from by kernel_rfl] at hr16))
  have NB4 := hid (frG_nb 3 sb nilS vv nilS nilS (ad a) (ad b) wnil)
  have h13a := K1.row M.r0 (by simpa using h13f)
  have HNB2 := hid (not_bytes_at (tc := 142) (cs := fs.setIfInBounds (0 + 4) lg) (i := 0 + 8) ((Array.getElem?_setIfInBounds_ne (by decide)).trans h7))
  replace HP := hid (((HP.out.kept M.kept).keptC K1 hrow HNB.out (by decide)).keptC K2 h13a NB4.out (by decide))
  replace HA := hid ((AccD.still D).keptC ((AccD.still D).keptC ((AccD.still D).kept HA.out M.kept) K1 hrow HNB.out (.inr rfl)) K2 h13a NB4.out (.inr rfl))
  replace N2 := hid (((N2.out.kept M.kept).keptC K1 hrow HNB.out).keptC K2 h13a NB4.out)
  replace N3 := hid (((N3.out.kept M.kept).keptC K1 hrow HNB.out).keptC K2 h13a NB4.out)
  replace N4 := hid (((N4.out.kept M.kept).keptC K1 hrow HNB.out).keptC K2 h13a NB4.out)
  replace N5 := hid (((N5.out.kept M.kept).keptC K1 hrow HNB.out).keptC K2 h13a NB4.out)
  replace HSG := hid ((HSG.out.keptC K1 hrow HNB.out).keptC K2 h13a NB4.out)
  replace HVN := hid ((HVN.out.keptC K1 hrow HNB.out).keptC K2 h13a NB4.out)
  replace HLG := hid ((HLG.out.keptC K1 hrow HNB.out).keptC K2 h13a NB4.out)
  replace HC := hid (((HC.out.kept M.kept).frame K1 hrow).frame K2 h13a)
  have HK1 : Hid (Kept [t13, c, fb] w w15) := (HK.out.mono (by intro k hk; simp at hk ⊢; omega)).trans ((M.kept.mono (by simp)).trans ((K1.mono (by simp)).trans (K2.mono (by simp))))
  replace H10 := hid (K2.row (K1.row M.r1 (by simpa using h10f)) (by simpa using fun h => M.ne01 h.symm))
  have H13 := hid hr16
  have HB13 : t13 ∈ [t13] ∨ w15.heap.size ≤ t13 := Or.inl (by simp)
  have hne : t13 ≠ t10 := M.ne01
  have NB13 := hid (frG_nb 3 sb sg vv nilS nilS (ad a) (ad b) wnil)
  have hf13 : fb ∉ [t13] := by simp; omega
  replace hr := K2.row hr15 hf13
  clear K1 K2 M hrow h13a NB4 HK hr15 hr16
  have M : Mem w15 [t13] [(t13, .cells (frG 3 sb sg vv nilS nilS (ad a) (ad b) wnil).toArray 142 (0, 0)), (t10, .cells ((ad t).map n8).toArray 45 (0, 0))] w15 := ((Mem.start w15 [t13]).add H10.out (by simp)).add H13.out (by simpa using hne)
  have h7' : (fs.setIfInBounds (0 + 4) lg)[0 + 8]? = some (.slice p xs.length cp) := (Array.getElem?_setIfInBounds_ne (by decide)).trans h7
  have ha' : (fs.setIfInBounds (0 + 4) lg)[0 + 9]? = some nilS := (Array.getElem?_setIfInBounds_ne (by decide)).trans hmv
  have HSE2 : Hid ((fs.setIfInBounds (0 + 4) lg).extract (0 + 12) (0 + 12 + 20) = ((ad a).map n8).toArray) := by
    have e := ext_same (fs := fs.setIfInBounds (0 + 4) lg) (fs0 := fs) (a := 0 + 12) (n := 20) (by simp) fun k k1 k2 => Array.getElem?_setIfInBounds_ne (by omega)
    exact e.trans HSE.out
  refine (isZero_lit (.slice none 0 0) 0 true (by simp) _ (nil_num _)).mono ?_
  rintro e w16 ⟨rfl, K⟩
  replace M := M.call K
  clear K
  go_wp2_with fail
  have HCS := hid (HC.out.keptK M.kept H13.out)
  have HAS := hid ((AccD.still D).keptC HA.out M.kept H13.out NB13.out (.inr rfl))
  obtain ⟨wz, c1, _⟩ := HCS.out
  have MM := M
  replace M := M.anew []
  refine S_region (by kernel_rfl) ?_
  refine E_stage 0 21 [0, 1, 2, 3, 4, 5, 6, 7, 8, 9, 10, 11, 12, 13, 14, 17, 15, 16, 18, 19, 20] (by kernel_rfl) M.drew ?_
  clear M
  simp only [List.filterMap_cons, List.filterMap_nil, List.getElem?_cons_zero, List.getElem?_cons_succ]
  ((with_reducible apply E_run); rfl; rfl; (intro w M; go_simp; (try go_ints); (try simp only [↓IntWalk.iteOmega]); (try with_reducible rfl)); simp only [Act.put, List.setIfInBounds_toArray, List.set_cons_zero, List.set_cons_succ])
  ((with_reducible apply E_run); rfl; rfl; (intro w M; go_simp; (try go_ints); (try simp only [↓IntWalk.iteOmega]); (try with_reducible rfl)); simp only [Act.put, List.setIfInBounds_toArray, List.set_cons_zero, List.set_cons_succ])
  ((with_reducible apply E_run); rfl; rfl; (intro w M; go_simp; (try go_ints); (try simp only [↓IntWalk.iteOmega]); (try with_reducible rfl)); simp only [Act.put, List.setIfInBounds_toArray, List.set_cons_zero, List.set_cons_succ])
  ((with_reducible apply E_run); rfl; rfl; (intro w M; exact run_loadCell (M.kept.row c1 (by simp)) rfl (show (chN E wz (.slice (some ⟨fb, 0, none⟩) 1 cap) rt)[9]? = some (.slice (some ⟨fb, 0, none⟩) 1 cap) by kernel_rfl) Salg.underlying115 rfl); simp only [Act.put, List.setIfInBounds_toArray, List.set_cons_zero, List.set_cons_succ])
  ((with_reducible apply E_run); rfl; rfl; (intro w M; go_simp; (try go_ints); (try simp only [↓IntWalk.iteOmega]); (try with_reducible rfl)); simp only [Act.put, List.setIfInBounds_toArray, List.set_cons_zero, List.set_cons_succ])
  ((with_reducible apply E_run); rfl; rfl; (intro w M; go_simp; (try go_ints); (try simp only [↓IntWalk.iteOmega]); (try with_reducible rfl)); simp only [Act.put, List.setIfInBounds_toArray, List.set_cons_zero, List.set_cons_succ])
  ((with_reducible apply E_run); rfl; rfl; (intro w M; go_simp; (try go_ints); (try simp only [↓IntWalk.iteOmega]); (try with_reducible rfl)); simp only [Act.put, List.setIfInBounds_toArray, List.set_cons_zero, List.set_cons_succ])
  ((with_reducible apply E_run); rfl; rfl; (intro w M; go_simp; (try go_ints); (try simp only [↓IntWalk.iteOmega]); (try with_reducible rfl)); simp only [Act.put, List.setIfInBounds_toArray, List.set_cons_zero, List.set_cons_succ])
  ((with_reducible apply E_run); rfl; rfl; (intro w M; go_simp; (try go_ints); (try simp only [↓IntWalk.iteOmega]); (try with_reducible rfl)); simp only [Act.put, List.setIfInBounds_toArray, List.set_cons_zero, List.set_cons_succ])
  ((with_reducible apply E_run); rfl; rfl; (intro w M; go_simp; (try go_ints); (try simp only [↓IntWalk.iteOmega]); (try with_reducible rfl)); simp only [Act.put, List.setIfInBounds_toArray, List.set_cons_zero, List.set_cons_succ])
  ((with_reducible apply E_run); rfl; rfl; (intro w M; go_simp; (try go_ints); (try simp only [↓IntWalk.iteOmega]); (try with_reducible rfl)); simp only [Act.put, List.setIfInBounds_toArray, List.set_cons_zero, List.set_cons_succ])
  ((with_reducible apply E_run); rfl; rfl; (intro w M; go_simp; (try go_ints); (try simp only [↓IntWalk.iteOmega]); (try with_reducible rfl)); simp only [Act.put, List.setIfInBounds_toArray, List.set_cons_zero, List.set_cons_succ])
  ((with_reducible apply E_run); rfl; rfl; (intro w M; go_simp; (try go_ints); (try simp only [↓IntWalk.iteOmega]); (try with_reducible rfl)); simp only [Act.put, List.setIfInBounds_toArray, List.set_cons_zero, List.set_cons_succ])
  ((with_reducible apply E_run); rfl; rfl; (intro w M; go_simp; (try go_ints); (try simp only [↓IntWalk.iteOmega]); (try with_reducible rfl)); simp only [Act.put, List.setIfInBounds_toArray, List.set_cons_zero, List.set_cons_succ])
  ((with_reducible apply E_run (v := .agg ((ad a).map n8).toArray)); rfl; rfl; (intro w M; exact run_loadX (n := 20) (M.kept.row (MM.kept.row hr hf13) (by simp)) rfl Salg.underlying45 rfl size45 (by simp; omega) HSE2.out); simp only [Act.put, List.setIfInBounds_toArray, List.set_cons_zero, List.set_cons_succ])
  ((with_reducible apply E_run); rfl; rfl; (intro w M; go_simp; (try go_ints); (try simp only [↓IntWalk.iteOmega]); (try with_reducible rfl)); simp only [Act.put, List.setIfInBounds_toArray, List.set_cons_zero, List.set_cons_succ])
  refine E_call rfl Salg.func85 (by kernel_rfl) (by kernel_rfl) (args := [.pointer (some ⟨c, 0, none⟩), A8 (ad a)]) rfl ?_
  intro w1 K M
  clear K
  refine (account_D c 119 _ E.vz D da (ad a) _ (M.kept.row c1 (by simp)) (chN_get _ _ _ _ (by decide)) ((AccD.still D).kept HAS.out M.kept) rfl HDA.out).mono ?_
  rintro e w17 ⟨nva, bva, cua, rfl, xHNVa, xHB0, xHCUa, K⟩
  have HNVa := hid xHNVa
  have HB0 := hid xHB0
  have HCUa := hid xHCUa
  clear xHNVa xHB0 xHCUa
  replace M := M.call K
  refine ⟨_, rfl, trivial, M, ?_⟩
  clear K
  simp only [Act.put, List.setIfInBounds_toArray, List.set_cons_zero, List.set_cons_succ]
  ((with_reducible apply E_run (v := bva)); rfl; rfl; (intro w M; kernel_rfl); simp only [Act.put, List.setIfInBounds_toArray, List.set_cons_zero, List.set_cons_succ])
  refine E_call rfl Salg.func72 (by kernel_rfl) (by kernel_rfl) (args := [bva, (.slice none 0 0)]) rfl ?_
  intro w1 K M
  replace HB0 := hid (HB0.out.kept K)
  clear K
  refine (cmp_num bva (.slice none 0 0) da.B 0 _ HB0.out (nil_num _)).mono ?_
  rintro e w18 ⟨rfl, K⟩
  replace HB0 := hid (HB0.out.kept K)
  replace M := M.call K
  refine ⟨_, rfl, trivial, M, ?_⟩
  clear K
  simp only [Act.put, List.setIfInBounds_toArray, List.set_cons_zero, List.set_cons_succ]
  ((with_reducible apply E_run (v := .bool (decide (cmpI da.B 0 < 0)))); rfl; rfl; (intro w M; go_simp; (try go_ints); (try with_reducible rfl)); simp only [Act.put, List.setIfInBounds_toArray, List.set_cons_zero, List.set_cons_succ])
  rw [HDC.out]
  ((with_reducible apply E_run); rfl; rfl; (intro w M; go_simp; (try go_ints); (try simp only [↓IntWalk.iteOmega]); (try with_reducible rfl)); simp only [Act.put, List.setIfInBounds_toArray, List.set_cons_zero, List.set_cons_succ])
  refine E_nil ?_
  intro w19 K M
  clear K
  refine S_done ?_
  replace M := MM.call M.kept
  clear MM HB0  c1 HCS HAS HNVa HCUa
  go_wp2_with fail
  refine (arg_q fb 0 (fs.setIfInBounds (0 + 4) lg) _ u2 xs 2 _ (M.kept.row hr hf13) h7' ((HP.out.keptC M.kept H13.out NB13.out (by decide)).s) (by omega) hu2 (by omega)).mono ?_
  rintro e w20 ⟨rfl, K⟩
  replace M := M.call K
  clear K
  go_wp2_with fail
  refine (arg_q fb 0 (fs.setIfInBounds (0 + 4) lg) _ u3 xs 3 _ (M.kept.row hr hf13) h7' ((HP.out.keptC M.kept H13.out NB13.out (by decide)).s) (by omega) hu3 (by omega)).mono ?_
  rintro e w21 ⟨rfl, K⟩
  replace M := M.call K
  clear K
  go_wp2_with fail
  refine (read_any fb 0 (fs.setIfInBounds (0 + 4) lg) nilS u2 u3 [] 0 0 _ (M.kept.row hr hf13) ha' (NatV.nil _) (N2.out.keptC M.kept H13.out NB13.out) (N3.out.keptC M.kept H13.out NB13.out) (by decide) (by decide)).mono ?_
  rintro e w22 ⟨iu, rfl, x1, _, K⟩
  have HIU := hid x1
  have hiu1 := x1.one
  replace M := M.call K
  clear K x1
  go_wp2_with (first
    | ((with_reducible apply W_stV (b := t13) (o := 11) (v := iu)); rfl; rfl; exact hiu1; exact M.r0; exact size40; exact Nat.le_of_ble_eq_true (by kernel_rfl); intro wS K hr3; replace HIU := hid (HIU.out.keptC K M.r0 (frG_nb _ _ _ _ _ _ _ _ _)); rw [show ((frG 3 sb sg vv nilS nilS (ad a) (ad b) wnil).toArray).setIfInBounds 11 (iu) = (frG 3 sb sg vv nilS iu (ad a) (ad b) wnil).toArray from by kernel_rfl] at hr3; replace M := Mem.callPut (L1 := []) M HB13 K hr3; clear K hr3; simp only [List.nil_append] at M)
    | ((with_reducible apply W_loadAll); rfl; exact M.r1; exact Salg.underlying45; rfl; exact size45; simp only [Act.put, List.setIfInBounds_toArray, List.set_cons_zero, List.set_cons_succ]))
  refine (HT.out.nat _).mono ?_
  rintro e w23 ⟨rfl, K⟩
  replace HIU := hid (HIU.out.kept K)
  replace M := M.call K
  clear K
  go_wp2_with (first
    | ((with_reducible apply W_stV (b := t13) (o := 1) (v := .int .u8 0)); rfl; rfl; exact rfl; exact M.r0; exact size5; exact Nat.le_of_ble_eq_true (by kernel_rfl); intro wS K hr3; replace HIU := hid (HIU.out.keptC K M.r0 (frG_nb _ _ _ _ _ _ _ _ _)); rw [show ((frG 3 sb sg vv nilS iu (ad a) (ad b) wnil).toArray).setIfInBounds 1 (.int .u8 0) = (frG 3 sb sg vv nilS iu (ad a) (ad b) wnil).toArray from by kernel_rfl] at hr3; replace M := Mem.callPut (L1 := []) M HB13 K hr3; clear K hr3; simp only [List.nil_append] at M)
    | ((with_reducible apply W_loadCell); rfl; exact M.r0; exact (show (frG 3 sb sg vv nilS iu (ad a) (ad b) wnil).toArray[1]? = some (.int .u8 0) by kernel_rfl); exact Salg.underlying5; rfl; simp only [Act.put, List.setIfInBounds_toArray, List.set_cons_zero, List.set_cons_succ]))
  have HCS := hid (HC.out.keptK M.kept H13.out)
  have HAS := hid ((AccD.still D).keptC HA.out M.kept H13.out NB13.out (.inr rfl))
  obtain ⟨wz, c1, _⟩ := HCS.out
  have MM := M
  replace M := M.anew []
  refine S_region (by kernel_rfl) ?_
  replace HIU := hid (HIU.out.kept (Kept.refl [] _).drew)
  refine E_stage 0 7 [0, 1, 2, 3, 4, 5, 6] (by kernel_rfl) M.drew ?_
  clear M
  simp only [List.filterMap_cons, List.filterMap_nil, List.getElem?_cons_zero, List.getElem?_cons_succ]
  ((with_reducible apply E_run); rfl; rfl; (intro w M; go_simp; (try go_ints); (try simp only [↓IntWalk.iteOmega]); (try with_reducible rfl)); simp only [Act.put, List.setIfInBounds_toArray, List.set_cons_zero, List.set_cons_succ])
  ((with_reducible apply E_run); rfl; rfl; (intro w M; go_simp; (try go_ints); (try simp only [↓IntWalk.iteOmega]); (try with_reducible rfl)); simp only [Act.put, List.setIfInBounds_toArray, List.set_cons_zero, List.set_cons_succ])
  ((with_reducible apply E_run); rfl; rfl; (intro w M; go_simp; (try go_ints); (try simp only [↓IntWalk.iteOmega]); (try with_reducible rfl)); simp only [Act.put, List.setIfInBounds_toArray, List.set_cons_zero, List.set_cons_succ])
  ((with_reducible apply E_run); rfl; rfl; (intro w M; exact run_loadAll M.r1 rfl Salg.underlying45 rfl size45); simp only [Act.put, List.setIfInBounds_toArray, List.set_cons_zero, List.set_cons_succ])
  refine E_call rfl Salg.func85 (by kernel_rfl) (by kernel_rfl) (args := [.pointer (some ⟨c, 0, none⟩), A8 (ad t)]) rfl ?_
  intro w1 K M
  replace HIU := hid (HIU.out.kept K)
  clear K
  refine (account_D c 119 _ E.vz D dt (ad t) _ (M.kept.row c1 (by simp)) (chN_get _ _ _ _ (by decide)) ((AccD.still D).kept HAS.out M.kept) rfl HDT.out).mono ?_
  rintro e w24 ⟨nvt, bvt, cut, rfl, xHNVt, xHBVt, xHCUt, K⟩
  have HNVt := hid xHNVt
  have HBVt := hid xHBVt
  have HCUt := hid xHCUt
  clear xHNVt xHBVt xHCUt
  replace HIU := hid (HIU.out.kept K)
  replace M := M.call K
  refine ⟨_, rfl, trivial, M, ?_⟩
  clear K
  simp only [Act.put, List.setIfInBounds_toArray, List.set_cons_zero, List.set_cons_succ]
  ((with_reducible apply E_run (v := cut)); rfl; rfl; (intro w M; kernel_rfl); simp only [Act.put, List.setIfInBounds_toArray, List.set_cons_zero, List.set_cons_succ])
  refine E_call rfl Salg.func96 (by kernel_rfl) (by kernel_rfl) (args := [cut]) rfl ?_
  intro w1 K M
  replace HCUt := hid (HCUt.out.kept K)
  replace HIU := hid (HIU.out.kept K)
  clear K
  refine (bytesOf_all cut dt.ds _ HCUt.out).mono ?_
  rintro e w25 ⟨cu2, rfl, xHCU, K⟩
  have HCU := hid xHCU
  clear xHCU
  replace HCUt := hid (HCUt.out.kept K)
  replace HIU := hid (HIU.out.kept K)
  replace M := M.call K
  refine ⟨_, rfl, trivial, M, ?_⟩
  clear K
  simp only [Act.put, List.setIfInBounds_toArray, List.set_cons_zero, List.set_cons_succ]
  refine E_nil ?_
  intro w26 K M
  replace HIU := hid (HIU.out.kept K)
  replace HCU := hid (HCU.out.kept K)
  clear K
  replace M := MM.call M.kept
  clear MM HCS HAS c1 HNVt HBVt HCUt
  have hcu1 := HCU.out.one
  refine S_seg 7 9 (by kernel_rfl) (by decide) ?_
  simp only [List.take_succ_cons, List.take_zero, List.drop_zero, List.drop_succ_cons, Nat.sub_zero, Nat.reduceSub]
  go_wp2_with ((with_reducible apply W_stV (b := t13) (o := 10) (v := cu2)); rfl; rfl; exact hcu1; exact M.r0; exact size40; exact Nat.le_of_ble_eq_true (by kernel_rfl); intro wS K hr3; replace HIU := hid (HIU.out.keptC K M.r0 (frG_nb _ _ _ _ _ _ _ _ _)); replace HCU := hid (HCU.out.keptC K M.r0 (frG_nb _ _ _ _ _ _ _ _ _)); rw [show ((frG 3 sb sg vv nilS iu (ad a) (ad b) wnil).toArray).setIfInBounds 10 (cu2) = (frG 3 sb sg vv cu2 iu (ad a) (ad b) wnil).toArray from by kernel_rfl] at hr3; replace M := Mem.callPut (L1 := []) M HB13 K hr3; clear K hr3; simp only [List.nil_append] at M)
  refine S_done ?_
  go_wp2_with fail
  refine (arg_q fb 0 (fs.setIfInBounds (0 + 4) lg) _ u4 xs 4 _ (M.kept.row hr hf13) h7' ((HP.out.keptC M.kept H13.out NB13.out (by decide)).s) (by omega) hu4 (by omega)).mono ?_
  rintro e w27 ⟨rfl, K⟩
  replace HIU := hid (HIU.out.kept K)
  replace HCU := hid (HCU.out.kept K)
  replace M := M.call K
  clear K
  go_wp2_with fail
  refine (arg_q fb 0 (fs.setIfInBounds (0 + 4) lg) _ u5 xs 5 _ (M.kept.row hr hf13) h7' ((HP.out.keptC M.kept H13.out NB13.out (by decide)).s) (by omega) hu5 (by omega)).mono ?_
  rintro e w28 ⟨rfl, K⟩
  replace HIU := hid (HIU.out.kept K)
  replace HCU := hid (HCU.out.kept K)
  replace M := M.call K
  clear K
  go_wp2_with fail
  have hrow := M.kept.row hr hf13
  refine (wait_any fb 0 6 0 0 (fs.setIfInBounds (0 + 4) lg) _ u4 u5 xs _ hrow h7' ((HP.out.keptC M.kept H13.out NB13.out (by decide)).s) (N4.out.keptC M.kept H13.out NB13.out) (N5.out.keptC M.kept H13.out NB13.out) (by omega) (by omega)).mono ?_
  rintro e w29 ⟨r29, p', r6, r7, rfl, K1, hr29, x1, x2, x3⟩
  have HSV := hid x1
  have HR7 := hid x3
  have hr61 := x2.one
  replace HP := hid ((HP.out.keptC M.kept H13.out NB13.out (by decide)).keptC K1 hrow HNB2.out (by decide))
  replace HLG := hid ((HLG.out.keptC M.kept H13.out NB13.out).keptC K1 hrow HNB2.out)
  replace HSG := hid ((HSG.out.keptC M.kept H13.out NB13.out).keptC K1 hrow HNB2.out)
  replace HVN := hid ((HVN.out.keptC M.kept H13.out NB13.out).keptC K1 hrow HNB2.out)
  replace HIU := hid (HIU.out.keptC K1 hrow HNB2.out)
  replace HCU := hid (HCU.out.keptC K1 hrow HNB2.out)
  replace HC := hid ((HC.out.keptK M.kept H13.out).frame K1 hrow)
  replace HA := hid ((AccD.still D).keptC ((AccD.still D).keptC HA.out M.kept H13.out NB13.out (.inr rfl)) K1 hrow HNB2.out (.inr rfl))
  have HK2 : Hid (Kept [t13, c, fb] w w29) := HK1.out.trans ((M.kept.mono (by intro k hk; simp at hk ⊢; omega)).trans (K1.mono (by simp)))
  have H13' := hid (K1.row M.r0 (by simpa using h13f))
  clear x1 x2 x3 K1 M HK1 hrow hr
  obtain ⟨fs2, hfs2⟩ : ∃ fs2, fs2 = (((fs.setIfInBounds (0 + 4) lg).setIfInBounds (0 + 8) (.slice p' (xs.length - 6) (xs.length - 6))).setIfInBounds (0 + 6) r6).setIfInBounds (0 + 7) r7 := ⟨_, rfl⟩
  rw [← hfs2] at hr29
  have HFS2 := hid hfs2
  clear hfs2
  have hs2 : fs2.size = cap * 60 := by rw [HFS2.out]; simp only [Array.size_setIfInBounds]; exact hz
  have HNB3 := hid (not_bytes_at (tc := 142) (cs := fs2) (i := 0 + 8) (p := p') (n := xs.length - 6) (m := xs.length - 6) (by rw [HFS2.out, Array.getElem?_setIfInBounds_ne (by decide), Array.getElem?_setIfInBounds_ne (by decide), Array.getElem?_setIfInBounds_self_of_lt (by simp; omega)]))
  go_wp2_with ((with_reducible apply W_loadAll); rfl; exact H13'.out; exact Salg.underlying142; rfl; exact (by kernel_rfl); simp only [Act.put, List.setIfInBounds_toArray, List.set_cons_zero, List.set_cons_succ])
  refine (enterY1d c fb cap 3 a b sb fs2 _ E rt sg vv cu2 iu (AccD D) _ HC.out (AccD.still D) HA.out hr29 HNB3.out hs2 hcap hc1 hsg1 hvv hcu1 hiu1 rfl (fun w => creates_three w) (fun w' K' => clone_D c E _ rt _ [] D w' (HC.out.kept K') ((AccD.still D).kept HA.out K') hD0 hD20 hl0 hl2 (.inl hmd))).mono ?_
  rintro e w30 ⟨r30, fb', cap', cur, a0, a1, a3, a6, vz, rfl, y1, y2, y3, y4, y5, y6, y6b, y6c, y7a, y7b, y7c, y7d, y8, yk⟩
  have Y1 := hid y1
  have Y2 := hid y2
  have Y4 := hid y4
  have Y5 := hid y5
  have Y8 := hid y8
  have YK := hid yk
  have hX : Hard [c, fb] w29 := by
    obtain ⟨wz, c1, _⟩ := HC.out
    intro x hx
    simp only [List.mem_cons, List.mem_singleton, List.not_mem_nil, or_false] at hx
    rcases hx with rfl | rfl
    · exact ⟨_, 119, c1, .inl rfl, chy_nb _ _ _ _⟩
    · exact ⟨_, 142, hr29, .inr rfl, HNB3.out⟩
  have HHX := hid hX
  clear y1 y2 y4 y5 y8 yk HC HA hX
  go_wp2_with fail
  go_end0
  have e2 : ∀ k, k ≠ 0 + 4 → k ≠ 0 + 6 → k ≠ 0 + 7 → k ≠ 0 + 8 → fs2[k]? = fs[k]? := by
    intro k k4 k6 k7 k8
    rw [HFS2.out, Array.getElem?_setIfInBounds_ne (by omega), Array.getElem?_setIfInBounds_ne (by omega), Array.getElem?_setIfInBounds_ne (by omega), Array.getElem?_setIfInBounds_ne (by omega)]
  have hX := HHX.out
  have hnl : xs.length - 6 = 0 := by omega
  have hK30 : Kept [c, fb] w w30 := by
    have := HK2.out
    refine ⟨YK.out.os.trans this.os, YK.out.tape.trans this.tape, YK.out.output.trans this.output, Nat.le_trans this.size YK.out.size, fun k hk hx => ?_⟩
    rw [YK.out.block k (Nat.lt_of_lt_of_le hk this.size) hx]
    refine this.block k hk ?_
    simp at hx ⊢
    refine ⟨?_, hx⟩
    rintro rfl
    have := h13w
    omega
  have HSV0 : RowV w30 89 (.slice p' (xs.length - 6) (xs.length - 6)) [] := by
    have := HSV.out.keptN YK.out hX
    rw [hnl, List.take_zero] at this
    rw [hnl]
    exact this
  refine ⟨_, fb', cap', cur, pv, lg, .slice p' (xs.length - 6) (xs.length - 6), r7, cu2, sg, nilS, iu, a0, a1, a3, a6, vz, rfl, Y1.out, Y2.out, y3.imp id (fun h => Nat.le_trans HK2.out.size h), ?_, ?_, ?_, ?_, ?_, ?_, ⟨r6, ?_, hr61⟩, ⟨HP.out.p.keptN YK.out hX, HLG.out.keptN YK.out hX, HSV0, ⟨rfl, fun k v n i1 => by simp at i1⟩⟩, HR7.out.keptN YK.out hX, Y5.out, HSG.out.keptN YK.out hX, trivial, HCU.out.keptN YK.out hX, by simpa [cutB] using HIU.out.keptN YK.out hX, y6, y6b, y6c, ⟨y7a, y7b, y7c, y7d⟩, Y8.out, hK30⟩
  · intro k k60 k3 k4 k6 k7 k8 k9
    rw [Y4.out k k60, e2 k k4 k6 k7 k8]
    exact HX2.out k (by omega) (by omega) (by omega) (by omega)
  · rw [Y4.out (0 + 3) (by decide), e2 (0 + 3) (by decide) (by decide) (by decide) (by decide)]
    exact h3
  · rw [Y4.out (0 + 4) (by decide), HFS2.out, Array.getElem?_setIfInBounds_ne (by decide), Array.getElem?_setIfInBounds_ne (by decide), Array.getElem?_setIfInBounds_ne (by decide), Array.getElem?_setIfInBounds_self_of_lt z4]
  · rw [Y4.out (0 + 7) (by decide), HFS2.out, Array.getElem?_setIfInBounds_self_of_lt (by simp; omega)]
  · rw [Y4.out (0 + 8) (by decide), HFS2.out, Array.getElem?_setIfInBounds_ne (by decide), Array.getElem?_setIfInBounds_ne (by decide), Array.getElem?_setIfInBounds_self_of_lt (by simp; omega)]
  · rw [Y4.out (0 + 9) (by decide), e2 (0 + 9) (by decide) (by decide) (by decide) (by decide)]
    exact hmv
  · rw [Y4.out (0 + 6) (by decide), HFS2.out, Array.getElem?_setIfInBounds_ne (by decide), Array.getElem?_setIfInBounds_self_of_lt (by simp; omega)]

set_option maxHeartbeats 4000000 in
set_option maxRecDepth 100000 in
theorem enterCall1_staticcall (c fb cap m G A t a b V : Nat) (sb : Bool) (E : XEnv) (fs0 : Array Value) (cv vv rt : Value) (la : List (List Nat)) (D : List AD) (da dt d2 : AD) (w : World) (hC : ChY w c E (.slice (some ⟨fb, 0, none⟩) 1 cap) rt la) (hA : AccD D w E.vz) (hF : FrameQ w fb 0 fs0 m G [0, 0, 0, 0, t, A] nilS) (hf : FrB fs0 0 sb cv) (hse : fs0.extract (0 + 12) (0 + 12 + 20) = ((ad a).map n8).toArray) (ha : a < 256) (hT : TargetOK t) (hda : D.find? (fun x => x.adr == ad a) = some da) (hdt : D.find? (fun x => x.adr == ad t) = some dt) (hB : da.B < 256 ^ 100) (hVB : V ≤ da.B) (hl0 : 0 < (adWith la (ad t)).length) (hl1 : la.length ≤ 15) (hl2 : (adWith la (ad t)).length ≤ 20) (hD0 : 0 < D.length) (hD20 : D.length ≤ 20) (hmd : E.md = nilS) (hsz : fs0.size = cap * 60) (hcap : cap ≤ maxLen) (hc1 : 1 ≤ cap) (hm : m ≤ 1000) (hG : G < 1000000) :
    Calls Salg.prog 194 #[.pointer (some ⟨c, 0, none⟩), .pointer (some ⟨fb, 0, none⟩), .int .u8 250] w fun e w' => ∃ (r : Value) (fb' cap' : Nat) (cur : Array Value) (pv gv sv r7 cw sg vn iu a0 a1 a3 a6 vz' : Value), e = .returned r ∧ ChY w' c { E with vz := vz' } (.slice (some ⟨fb', 0, none⟩) 2 cap') nilS (adWith la (ad t)) ∧ w'.heap[fb']? = some (.cells cur 142 (0, 0)) ∧ (fb' = fb ∨ w.heap.size ≤ fb') ∧ (∀ k, k < 60 → k ≠ 0 + 3 → k ≠ 0 + 4 → k ≠ 0 + 6 → k ≠ 0 + 7 → k ≠ 0 + 8 → k ≠ 0 + 9 → cur[k]? = fs0[k]?) ∧ cur[0 + 3]? = some pv ∧ cur[0 + 4]? = some gv ∧ cur[0 + 7]? = some r7 ∧ cur[0 + 8]? = some sv ∧ cur[0 + 9]? = some nilS ∧ (∃ r6 : Value, cur[0 + 6]? = some r6 ∧ r6.oneCell' = true) ∧ PartsV w' pv gv sv [] m (G - (min A (G - G / 64))) [] ∧ NumV w' r7 0 ∧ (∀ k, k < 60 → cur[60 + k]? = (frG 4 true sg vn cw iu (ad t) (ad a) (wrow5 a0 a1 a3 a6))[k]?) ∧ NumV w' sg (min A (G - G / 64)) ∧ NumV w' vn 0 ∧ NatV w' cw dt.ds ∧ NatV w' iu [] ∧ cur.size = cap' * 60 ∧ cap' ≤ maxLen ∧ 2 ≤ cap' ∧ (a0.oneCell' = true ∧ a1.oneCell' = true ∧ a3.oneCell' = true ∧ a6.oneCell' = true) ∧ AccD D w' vz' ∧ Kept [c, fb] w w' := by
  have M := Mem.start w []
  obtain ⟨fs, pv, gv, sv, xs, hr, h0, h2, h3, h4, h5, h6, h7, h8, h9, hmv⟩ := hF
  have hxl : xs.length = 6 := by have := h9.1; simpa using this
  obtain ⟨u0, hu0⟩ : ∃ u, xs[xs.length - 1 - 0]? = some u := ⟨_, List.getElem?_eq_getElem (by omega)⟩
  obtain ⟨u1, hu1⟩ : ∃ u, xs[xs.length - 1 - 1]? = some u := ⟨_, List.getElem?_eq_getElem (by omega)⟩
  obtain ⟨u2, hu2⟩ : ∃ u, xs[xs.length - 1 - 2]? = some u := ⟨_, List.getElem?_eq_getElem (by omega)⟩
  obtain ⟨u3, hu3⟩ : ∃ u, xs[xs.length - 1 - 3]? = some u := ⟨_, List.getElem?_eq_getElem (by omega)⟩
  obtain ⟨u4, hu4⟩ : ∃ u, xs[xs.length - 1 - 4]? = some u := ⟨_, List.getElem?_eq_getElem (by omega)⟩
  obtain ⟨u5, hu5⟩ : ∃ u, xs[xs.length - 1 - 5]? = some u := ⟨_, List.getElem?_eq_getElem (by omega)⟩
  obtain ⟨p, cp, rfl⟩ : ∃ p cap, sv = .slice p xs.length cap := by
    rcases h8 with ⟨rfl, rfl⟩ | ⟨g, cap, cur, rfl, _⟩
    · exact ⟨none, 0, rfl⟩
    · exact ⟨_, _, rfl⟩
  have HNB := hid (not_bytes_at (tc := 142) h7)
  have HP : Hid (PartsV w pv gv (.slice p xs.length cp) xs m G [0, 0, 0, 0, t, A]) := ⟨h4, h6, h8, h9⟩
  have N0 : Hid (NumV w u0 A) := h9.2 _ _ _ hu0 (by rw [hxl]; rfl)
  have N1 : Hid (NumV w u1 t) := h9.2 _ _ _ hu1 (by rw [hxl]; rfl)
  have N2 : Hid (NumV w u2 0) := h9.2 _ _ _ hu2 (by rw [hxl]; rfl)
  have N3 : Hid (NumV w u3 0) := h9.2 _ _ _ hu3 (by rw [hxl]; rfl)
  have N4 : Hid (NumV w u4 0) := h9.2 _ _ _ hu4 (by rw [hxl]; rfl)
  have N5 : Hid (NumV w u5 0) := h9.2 _ _ _ hu5 (by rw [hxl]; rfl)
  have hz : fs.size = cap * 60 := h0.trans hsz
  have g2 := (h2 (0 + 2) (by decide) (by decide) (by decide) (by decide)).trans hf.f2
  have HSE : Hid (fs.extract (0 + 12) (0 + 12 + 20) = ((ad a).map n8).toArray) := by
    have e := ext_same (a := 0 + 12) (n := 20) h0 fun k k1 k2 => h2 k (by omega) (by omega) (by omega) (by omega)
    exact e.trans hse
  have HX2 := hid h2
  have HC := hid hC
  have HA := hid hA
  have HT := hid hT
  have HDA := hid hda
  have HDT := hid hdt
  have hfl := lt_of_row hr
  have hfc : fb ∉ [c] := by
    obtain ⟨wz, y, _⟩ := hC
    exact row_ne y hr (by intro h; injection h with _ h _; exact absurd h (by decide))
  have hcl : c < w.heap.size := by
    obtain ⟨_, y, _⟩ := hC
    exact lt_of_row y
  have z4 : 0 + 4 < fs.size := by omega
  have hdc : decide (cmpI da.B 0 < 0) = false := by
    unfold cmpI
    rw [if_neg (by omega)]
    split <;> rfl
  have HDC := hid hdc
  clear hdc
  clear h2 h4 h6 h8 h9 hC hA hf hse h0 hT hda hdt  
  go_enter Salg.func194, Salg.ntmps194
  go_wp2_with fail
  refine (arity_staticcall _).mono ?_
  rintro e w1 ⟨rfl, hw⟩
  replace hw := hw.symm
  subst hw
  go_wp2_with fail
  refine (arg_q fb 0 fs _ u0 xs 0 _ (M.kept.row hr (by simp)) h7 (HP.out.s.kept M.kept) (by omega) hu0 (by omega)).mono ?_
  rintro e w2 ⟨rfl, K⟩
  replace M := M.call K
  clear K
  go_wp2_with fail
  refine (arg_q fb 0 fs _ u1 xs 1 _ (M.kept.row hr (by simp)) h7 (HP.out.s.kept M.kept) (by omega) hu1 (by omega)).mono ?_
  rintro e w3 ⟨rfl, K⟩
  replace M := M.call K
  clear K
  go_wp2_with fail
  refine (HT.out.adr u1 _ (N1.out.kept M.kept)).mono ?_
  rintro e w4 ⟨rfl, K⟩
  replace M := M.call K
  clear K
  go_wp2_with (first
    | ((with_reducible apply L_allocA M); exact zero45; clear M; intro t10 w5 ht10 M; simp only [Act.put, List.setIfInBounds_toArray, List.set_cons_zero, List.set_cons_succ])
    | ((with_reducible apply W_storeK (b := t10) (vs := ((ad t).map n8).toArray)); rfl; rfl; exact M.r0; exact size45; rfl; exact one8 _; intro w6 K1 hr3; replace M := Mem.callPut (L1 := []) M (Or.inr ht10) K1 hr3; clear K1 hr3; simp only [List.nil_append] at M))
  refine S_region (by kernel_rfl) ?_
  refine E_stage 0 4 [0, 1, 2, 3] (by kernel_rfl) M.drew ?_
  clear M
  simp only [List.filterMap_cons, List.filterMap_nil, List.getElem?_cons_zero, List.getElem?_cons_succ]
  ((with_reducible apply E_run); rfl; rfl; (intro w M; go_simp; (try go_ints); (try simp only [↓IntWalk.iteOmega]); (try with_reducible rfl)); simp only [Act.put, List.setIfInBounds_toArray, List.set_cons_zero, List.set_cons_succ])
  ((with_reducible apply E_run); rfl; rfl; (intro w M; go_simp; (try go_ints); (try simp only [↓IntWalk.iteOmega]); (try with_reducible rfl)); simp only [Act.put, List.setIfInBounds_toArray, List.set_cons_zero, List.set_cons_succ])
  ((with_reducible apply E_run); rfl; rfl; (intro w M; go_simp; (try go_ints); (try simp only [↓IntWalk.iteOmega]); (try with_reducible rfl)); simp only [Act.put, List.setIfInBounds_toArray, List.set_cons_zero, List.set_cons_succ])
  ((with_reducible apply E_run); rfl; rfl; (intro w M; exact run_loadAll M.r0 rfl Salg.underlying45 rfl size45); simp only [Act.put, List.setIfInBounds_toArray, List.set_cons_zero, List.set_cons_succ])
  refine E_nil ?_
  intro w7 K M
  clear K
  refine S_seg 4 5 (by kernel_rfl) (by decide) ?_
  simp only [List.take_succ_cons, List.take_zero, List.drop_zero, List.drop_succ_cons, Nat.sub_zero, Nat.reduceSub]
  go_wp2_with fail
  refine (warm_Y c t E _ rt la _ (HC.out.kept M.kept) HT.out.lt (by omega)).mono ?_
  rintro e w8 ⟨r8, rfl, x8, K1⟩
  obtain ⟨wz, c1, _⟩ := HC.out.kept M.kept
  have HO := hid (chy_nb E wz (.slice (some ⟨fb, 0, none⟩) 1 cap) rt)
  replace hr := K1.row (M.kept.row hr (by simp)) hfc
  have h10c : t10 ∉ [c] := by simp; omega
  have H10 := hid (K1.row M.r0 h10c)
  replace HP := hid ((HP.out.kept M.kept).keptC K1 c1 HO.out (by decide))
  replace HA := hid ((AccD.still D).keptC ((AccD.still D).kept HA.out M.kept) K1 c1 HO.out (.inl rfl))
  replace N0 := hid ((N0.out.kept M.kept).keptC K1 c1 HO.out)
  replace N2 := hid ((N2.out.kept M.kept).keptC K1 c1 HO.out)
  replace N3 := hid ((N3.out.kept M.kept).keptC K1 c1 HO.out)
  replace N4 := hid ((N4.out.kept M.kept).keptC K1 c1 HO.out)
  replace N5 := hid ((N5.out.kept M.kept).keptC K1 c1 HO.out)
  have HK : Hid (Kept [c, fb] w w8) := (M.kept.mono (by simp)).trans (K1.mono (by simp))
  replace HC : Hid (ChY w8 c E (.slice (some ⟨fb, 0, none⟩) 1 cap) rt (adWith la (ad t))) := x8
  have h10f : t10 ≠ fb := by omega
  have h10l := lt_of_row H10.out
  clear x8 K1 M c1 HO
  have M : Mem w8 [] [(t10, .cells ((ad t).map n8).toArray 45 (0, 0))] w8 := (Mem.start w8 []).add H10.out (by simp)
  go_wp2_with fail
  refine S_done ?_
  go_wp2_with fail
  refine S_region (by kernel_rfl) ?_
  refine E_float 0 13 [0, 1, 2, 3, 4, 6, 7, 8, 9, 10, 5, 11] 12 13 _ (by kernel_rfl) ⟨⟨_, _, _, _, _, rfl, zero142, rfl⟩⟩ (by simp) M.drew ?_
  clear M
  simp only [List.filterMap_cons, List.filterMap_nil, List.getElem?_cons_zero, List.getElem?_cons_succ]
  ((with_reducible apply E_run); rfl; rfl; (intro w M; go_simp; (try go_ints); (try simp only [↓IntWalk.iteOmega]); (try with_reducible rfl)); simp only [Act.put, List.setIfInBounds_toArray, List.set_cons_zero, List.set_cons_succ])
  ((with_reducible apply E_run); rfl; rfl; (intro w M; go_simp; (try go_ints); (try simp only [↓IntWalk.iteOmega]); (try with_reducible rfl)); simp only [Act.put, List.setIfInBounds_toArray, List.set_cons_zero, List.set_cons_succ])
  ((with_reducible apply E_run); rfl; rfl; (intro w M; go_simp; (try go_ints); (try simp only [↓IntWalk.iteOmega]); (try with_reducible rfl)); simp only [Act.put, List.setIfInBounds_toArray, List.set_cons_zero, List.set_cons_succ])
  ((with_reducible apply E_run); rfl; rfl; (intro w M; exact run_loadCell (M.kept.row hr (by simp)) rfl g2 Salg.underlying4 rfl); simp only [Act.put, List.setIfInBounds_toArray, List.set_cons_zero, List.set_cons_succ])
  ((with_reducible apply E_run); rfl; rfl; (intro w M; go_simp; (try go_ints); (try simp only [↓IntWalk.iteOmega]); (try with_reducible rfl)); simp only [Act.put, List.setIfInBounds_toArray, List.set_cons_zero, List.set_cons_succ])
  ((with_reducible apply E_run); rfl; rfl; (intro w M; exact run_loadAll M.r0 rfl Salg.underlying45 rfl size45); simp only [Act.put, List.setIfInBounds_toArray, List.set_cons_zero, List.set_cons_succ])
  ((with_reducible apply E_run); rfl; rfl; (intro w M; go_simp; (try go_ints); (try simp only [↓IntWalk.iteOmega]); (try with_reducible rfl)); simp only [Act.put, List.setIfInBounds_toArray, List.set_cons_zero, List.set_cons_succ])
  ((with_reducible apply E_run); rfl; rfl; (intro w M; go_simp; (try go_ints); (try simp only [↓IntWalk.iteOmega]); (try with_reducible rfl)); simp only [Act.put, List.setIfInBounds_toArray, List.set_cons_zero, List.set_cons_succ])
  ((with_reducible apply E_run); rfl; rfl; (intro w M; go_simp; (try go_ints); (try simp only [↓IntWalk.iteOmega]); (try with_reducible rfl)); simp only [Act.put, List.setIfInBounds_toArray, List.set_cons_zero, List.set_cons_succ])
  ((with_reducible apply E_run (v := .agg ((ad a).map n8).toArray)); rfl; rfl; (intro w M; exact run_loadX (n := 20) (M.kept.row hr (by simp)) rfl Salg.underlying45 rfl size45 (by omega) HSE.out); simp only [Act.put, List.setIfInBounds_toArray, List.set_cons_zero, List.set_cons_succ])
  refine E_call rfl Salg.func158 (by kernel_rfl) (by kernel_rfl) (args := [(.slice none 0 0)]) rfl ?_
  intro w1 K M
  clear K
  refine (norm_num (.slice none 0 0) 0 _ (nil_num _)).mono ?_
  rintro e w9 ⟨vn, rfl, xHVN, K⟩
  have HVN := hid xHVN
  clear xHVN
  replace M := M.call K
  refine ⟨_, rfl, K.mono (by simp), M, ?_⟩
  clear K
  simp only [Act.put, List.setIfInBounds_toArray, List.set_cons_zero, List.set_cons_succ]
  ((with_reducible apply E_run (v := .agg (frG 2 sb nilS vn nilS nilS (ad t) (ad a) wnil).toArray)); rfl; rfl; (intro w M; obtain ⟨p0, q0, s0, e0⟩ := HVN.out.slice; subst e0; kernel_rfl); simp only [Act.put, List.setIfInBounds_toArray, List.set_cons_zero, List.set_cons_succ])
  refine E_nil ?_
  intro w10 K1 M
  replace HVN := hid (HVN.out.kept K1)
  clear K1
  intro t13 w11 K1 ht13 M
  replace HVN := hid (HVN.out.kept K1)
  clear K1
  simp only [Act.put, List.setIfInBounds_toArray, List.set_cons_zero, List.set_cons_succ]
  refine S_seg 13 14 (by kernel_rfl) (by decide) ?_
  simp only [List.take_succ_cons, List.take_zero, List.drop_zero, List.drop_succ_cons, Nat.sub_zero, Nat.reduceSub]
  have HVN1 := hid HVN.out.one
  have HB13 : t13 ∈ ([] : List Nat) ∨ w8.heap.size ≤ t13 := Or.inr ht13
  go_wp2_with ((with_reducible apply W_storeK (b := t13) (vs := (frG 2 sb nilS vn nilS nilS (ad t) (ad a) wnil).toArray)); rfl; rfl; exact M.r0; exact size142; rfl; exact frG_oneN rfl HVN1.out rfl rfl; intro w12 K1 hr3; replace HVN := hid (HVN.out.keptC K1 M.r0 (not_bytes_at (i := 3) (p := none) (n := 0) (m := 0) (by kernel_rfl))); replace M := Mem.callPut (L1 := []) M HB13 K1 hr3; clear K1 hr3; simp only [List.nil_append] at M)
  refine S_done ?_
  go_wp2_with (first
    | ((with_reducible apply W_stV (b := t13) (o := 0) (v := .int .u8 4)); rfl; rfl; exact rfl; exact M.r0; exact size5; exact Nat.le_of_ble_eq_true (by kernel_rfl); intro wS K hr3; replace HVN := hid (HVN.out.keptC K M.r0 (frG_nb _ _ _ _ _ _ _ _ _)); rw [show ((frG 2 sb nilS vn nilS nilS (ad t) (ad a) wnil).toArray).setIfInBounds 0 (.int .u8 4) = (frG 4 sb nilS vn nilS nilS (ad t) (ad a) wnil).toArray from by kernel_rfl] at hr3; replace M := Mem.callPut (L1 := []) M HB13 K hr3; clear K hr3; simp only [List.nil_append] at M)
    | ((with_reducible apply W_stV (b := t13) (o := 2) (v := .bool true)); rfl; rfl; exact rfl; exact M.r0; exact size4x; exact Nat.le_of_ble_eq_true (by kernel_rfl); intro wS K hr3; replace HVN := hid (HVN.out.keptC K M.r0 (frG_nb _ _ _ _ _ _ _ _ _)); rw [show ((frG 4 sb nilS vn nilS nilS (ad t) (ad a) wnil).toArray).setIfInBounds 2 (.bool true) = (frG 4 true nilS vn nilS nilS (ad t) (ad a) wnil).toArray from by kernel_rfl] at hr3; replace M := Mem.callPut (L1 := []) M HB13 K hr3; clear K hr3; simp only [List.nil_append] at M)
    | ((with_reducible apply W_loadCell); rfl; exact M.kept.row hr (by simp); exact h5; exact Salg.underlying89; rfl; simp only [Act.put, List.setIfInBounds_toArray, List.set_cons_zero, List.set_cons_succ]))
  refine (sentGas_any gv u0 G A _ (HP.out.g.kept M.kept) (N0.out.kept M.kept) hG).mono ?_
  rintro e w13 ⟨sg, rfl, xHSG, K⟩
  have HSG := hid xHSG
  replace HVN := hid (HVN.out.kept K)
  replace M := M.call K
  clear K xHSG
  go_wp2_with ((with_reducible apply W_loadCell); rfl; exact M.kept.row hr (by simp); exact h5; exact Salg.underlying89; rfl; simp only [Act.put, List.setIfInBounds_toArray, List.set_cons_zero, List.set_cons_succ])
  refine (less_any gv sg G _ _ (HP.out.g.kept M.kept) HSG.out (by omega) (by omega)).mono ?_
  rintro e w14 ⟨lg, rfl, xHLG, K⟩
  have HLG := hid xHLG
  replace HSG := hid (HSG.out.kept K)
  replace HVN := hid (HVN.out.kept K)
  replace M := M.call K
  clear K xHLG
  have hrow := M.kept.row hr (by simp)
  have h13f : t13 ≠ fb := by have := lt_of_row hr; omega
  have h13w : w.heap.size ≤ t13 := Nat.le_trans HK.out.size ht13
  have hsg1 := HSG.out.one
  go_wp2_with (first
    | ((with_reducible apply W_stV (b := fb) (o := 0 + 4) (v := lg)); rfl; rfl; exact HLG.out.one; exact hrow; exact size89; exact z4; intro w15a K1 hr15)
    | ((with_reducible apply W_stV (b := t13) (o := 4) (v := sg)); rfl; rfl; exact hsg1; exact K1.row M.r0 (by simpa using h13f); exact size89; exact Nat.le_of_ble_eq_true (by kernel_rfl); intro w15 K2 hr16; rw [show ((frG 4 true nilS vn nilS nilS (ad t) (ad a) wnil).toArray).setIfInBounds 4 sg = (frG 4 true sg vn nilS nilS (ad t) (ad a) wnil).toArray from by kernel_rfl] at hr16))
  have NB4 := hid (frG_nb 4 true nilS vn nilS nilS (ad t) (ad a) wnil)
  have h13a := K1.row M.r0 (by simpa using h13f)
  have HNB2 := hid (not_bytes_at (tc := 142) (cs := fs.setIfInBounds (0 + 4) lg) (i := 0 + 8) ((Array.getElem?_setIfInBounds_ne (by decide)).trans h7))
  replace HP := hid (((HP.out.kept M.kept).keptC K1 hrow HNB.out (by decide)).keptC K2 h13a NB4.out (by decide))
  replace HA := hid ((AccD.still D).keptC ((AccD.still D).keptC ((AccD.still D).kept HA.out M.kept) K1 hrow HNB.out (.inr rfl)) K2 h13a NB4.out (.inr rfl))
  replace N2 := hid (((N2.out.kept M.kept).keptC K1 hrow HNB.out).keptC K2 h13a NB4.out)
  replace N3 := hid (((N3.out.kept M.kept).keptC K1 hrow HNB.out).keptC K2 h13a NB4.out)
  replace N4 := hid (((N4.out.kept M.kept).keptC K1 hrow HNB.out).keptC K2 h13a NB4.out)
  replace N5 := hid (((N5.out.kept M.kept).keptC K1 hrow HNB.out).keptC K2 h13a NB4.out)
  replace HSG := hid ((HSG.out.keptC K1 hrow HNB.out).keptC K2 h13a NB4.out)
  replace HVN := hid ((HVN.out.keptC K1 hrow HNB.out).keptC K2 h13a NB4.out)
  replace HLG := hid ((HLG.out.keptC K1 hrow HNB.out).keptC K2 h13a NB4.out)
  replace HC := hid (((HC.out.kept M.kept).frame K1 hrow).frame K2 h13a)
  have HK1 : Hid (Kept [t13, c, fb] w w15) := (HK.out.mono (by intro k hk; simp at hk ⊢; omega)).trans ((M.kept.mono (by simp)).trans ((K1.mono (by simp)).trans (K2.mono (by simp))))
  replace H10 := hid (K2.row (K1.row M.r1 (by simpa using h10f)) (by simpa using fun h => M.ne01 h.symm))
  have H13 := hid hr16
  have HB13 : t13 ∈ [t13] ∨ w15.heap.size ≤ t13 := Or.inl (by simp)
  have hne : t13 ≠ t10 := M.ne01
  have NB13 := hid (frG_nb 4 true sg vn nilS nilS (ad t) (ad a) wnil)
  have hf13 : fb ∉ [t13] := by simp; omega
  replace hr := K2.row hr15 hf13
  clear K1 K2 M hrow h13a NB4 HK hr15 hr16
  have M : Mem w15 [t13] [(t13, .cells (frG 4 true sg vn nilS nilS (ad t) (ad a) wnil).toArray 142 (0, 0)), (t10, .cells ((ad t).map n8).toArray 45 (0, 0))] w15 := ((Mem.start w15 [t13]).add H10.out (by simp)).add H13.out (by simpa using hne)
  have h7' : (fs.setIfInBounds (0 + 4) lg)[0 + 8]? = some (.slice p xs.length cp) := (Array.getElem?_setIfInBounds_ne (by decide)).trans h7
  have ha' : (fs.setIfInBounds (0 + 4) lg)[0 + 9]? = some nilS := (Array.getElem?_setIfInBounds_ne (by decide)).trans hmv
  have HSE2 : Hid ((fs.setIfInBounds (0 + 4) lg).extract (0 + 12) (0 + 12 + 20) = ((ad a).map n8).toArray) := by
    have e := ext_same (fs := fs.setIfInBounds (0 + 4) lg) (fs0 := fs) (a := 0 + 12) (n := 20) (by simp) fun k k1 k2 => Array.getElem?_setIfInBounds_ne (by omega)
    exact e.trans HSE.out
  refine (isZero_lit (.slice none 0 0) 0 true (by simp) _ (nil_num _)).mono ?_
  rintro e w16 ⟨rfl, K⟩
  replace M := M.call K
  clear K
  go_wp2_with fail
  have HCS := hid (HC.out.keptK M.kept H13.out)
  have HAS := hid ((AccD.still D).keptC HA.out M.kept H13.out NB13.out (.inr rfl))
  obtain ⟨wz, c1, _⟩ := HCS.out
  have MM := M
  replace M := M.anew []
  refine S_region (by kernel_rfl) ?_
  refine E_stage 0 21 [0, 1, 2, 3, 4, 5, 6, 7, 8, 9, 10, 11, 12, 13, 14, 17, 15, 16, 18, 19, 20] (by kernel_rfl) M.drew ?_
  clear M
  simp only [List.filterMap_cons, List.filterMap_nil, List.getElem?_cons_zero, List.getElem?_cons_succ]
  ((with_reducible apply E_run); rfl; rfl; (intro w M; go_simp; (try go_ints); (try simp only [↓IntWalk.iteOmega]); (try with_reducible rfl)); simp only [Act.put, List.setIfInBounds_toArray, List.set_cons_zero, List.set_cons_succ])
  ((with_reducible apply E_run); rfl; rfl; (intro w M; go_simp; (try go_ints); (try simp only [↓IntWalk.iteOmega]); (try with_reducible rfl)); simp only [Act.put, List.setIfInBounds_toArray, List.set_cons_zero, List.set_cons_succ])
  ((with_reducible apply E_run); rfl; rfl; (intro w M; go_simp; (try go_ints); (try simp only [↓IntWalk.iteOmega]); (try with_reducible rfl)); simp only [Act.put, List.setIfInBounds_toArray, List.set_cons_zero, List.set_cons_succ])
  ((with_reducible apply E_run); rfl; rfl; (intro w M; exact run_loadCell (M.kept.row c1 (by simp)) rfl (show (chN E wz (.slice (some ⟨fb, 0, none⟩) 1 cap) rt)[9]? = some (.slice (some ⟨fb, 0, none⟩) 1 cap) by kernel_rfl) Salg.underlying115 rfl); simp only [Act.put, List.setIfInBounds_toArray, List.set_cons_zero, List.set_cons_succ])
  ((with_reducible apply E_run); rfl; rfl; (intro w M; go_simp; (try go_ints); (try simp only [↓IntWalk.iteOmega]); (try with_reducible rfl)); simp only [Act.put, List.setIfInBounds_toArray, List.set_cons_zero, List.set_cons_succ])
  ((with_reducible apply E_run); rfl; rfl; (intro w M; go_simp; (try go_ints); (try simp only [↓IntWalk.iteOmega]); (try with_reducible rfl)); simp only [Act.put, List.setIfInBounds_toArray, List.set_cons_zero, List.set_cons_succ])
  ((with_reducible apply E_run); rfl; rfl; (intro w M; go_simp; (try go_ints); (try simp only [↓IntWalk.iteOmega]); (try with_reducible rfl)); simp only [Act.put, List.setIfInBounds_toArray, List.set_cons_zero, List.set_cons_succ])
  ((with_reducible apply E_run); rfl; rfl; (intro w M; go_simp; (try go_ints); (try simp only [↓IntWalk.iteOmega]); (try with_reducible rfl)); simp only [Act.put, List.setIfInBounds_toArray, List.set_cons_zero, List.set_cons_succ])
  ((with_reducible apply E_run); rfl; rfl; (intro w M; go_simp; (try go_ints); (try simp only [↓IntWalk.iteOmega]); (try with_reducible rfl)); simp only [Act.put, List.setIfInBounds_toArray, List.set_cons_zero, List.set_cons_succ])
  ((with_reducible apply E_run); rfl; rfl; (intro w M; go_simp; (try go_ints); (try simp only [↓IntWalk.iteOmega]); (try with_reducible rfl)); simp only [Act.put, List.setIfInBounds_toArray, List.set_cons_zero, List.set_cons_succ])
  ((with_reducible apply E_run); rfl; rfl; (intro w M; go_simp; (try go_ints); (try simp only [↓IntWalk.iteOmega]); (try with_reducible rfl)); simp only [Act.put, List.setIfInBounds_toArray, List.set_cons_zero, List.set_cons_succ])
  ((with_reducible apply E_run); rfl; rfl; (intro w M; go_simp; (try go_ints); (try simp only [↓IntWalk.iteOmega]); (try with_reducible rfl)); simp only [Act.put, List.setIfInBounds_toArray, List.set_cons_zero, List.set_cons_succ])
  ((with_reducible apply E_run); rfl; rfl; (intro w M; go_simp; (try go_ints); (try simp only [↓IntWalk.iteOmega]); (try with_reducible rfl)); simp only [Act.put, List.setIfInBounds_toArray, List.set_cons_zero, List.set_cons_succ])
  ((with_reducible apply E_run); rfl; rfl; (intro w M; go_simp; (try go_ints); (try simp only [↓IntWalk.iteOmega]); (try with_reducible rfl)); simp only [Act.put, List.setIfInBounds_toArray, List.set_cons_zero, List.set_cons_succ])
  ((with_reducible apply E_run (v := .agg ((ad a).map n8).toArray)); rfl; rfl; (intro w M; exact run_loadX (n := 20) (M.kept.row (MM.kept.row hr hf13) (by simp)) rfl Salg.underlying45 rfl size45 (by simp; omega) HSE2.out); simp only [Act.put, List.setIfInBounds_toArray, List.set_cons_zero, List.set_cons_succ])
  ((with_reducible apply E_run); rfl; rfl; (intro w M; go_simp; (try go_ints); (try simp only [↓IntWalk.iteOmega]); (try with_reducible rfl)); simp only [Act.put, List.setIfInBounds_toArray, List.set_cons_zero, List.set_cons_succ])
  refine E_call rfl Salg.func85 (by kernel_rfl) (by kernel_rfl) (args := [.pointer (some ⟨c, 0, none⟩), A8 (ad a)]) rfl ?_
  intro w1 K M
  clear K
  refine (account_D c 119 _ E.vz D da (ad a) _ (M.kept.row c1 (by simp)) (chN_get _ _ _ _ (by decide)) ((AccD.still D).kept HAS.out M.kept) rfl HDA.out).mono ?_
  rintro e w17 ⟨nva, bva, cua, rfl, xHNVa, xHB0, xHCUa, K⟩
  have HNVa := hid xHNVa
  have HB0 := hid xHB0
  have HCUa := hid xHCUa
  clear xHNVa xHB0 xHCUa
  replace M := M.call K
  refine ⟨_, rfl, trivial, M, ?_⟩
  clear K
  simp only [Act.put, List.setIfInBounds_toArray, List.set_cons_zero, List.set_cons_succ]
  ((with_reducible apply E_run (v := bva)); rfl; rfl; (intro w M; kernel_rfl); simp only [Act.put, List.setIfInBounds_toArray, List.set_cons_zero, List.set_cons_succ])
  refine E_call rfl Salg.func72 (by kernel_rfl) (by kernel_rfl) (args := [bva, (.slice none 0 0)]) rfl ?_
  intro w1 K M
  replace HB0 := hid (HB0.out.kept K)
  clear K
  refine (cmp_num bva (.slice none 0 0) da.B 0 _ HB0.out (nil_num _)).mono ?_
  rintro e w18 ⟨rfl, K⟩
  replace HB0 := hid (HB0.out.kept K)
  replace M := M.call K
  refine ⟨_, rfl, trivial, M, ?_⟩
  clear K
  simp only [Act.put, List.setIfInBounds_toArray, List.set_cons_zero, List.set_cons_succ]
  ((with_reducible apply E_run (v := .bool (decide (cmpI da.B 0 < 0)))); rfl; rfl; (intro w M; go_simp; (try go_ints); (try with_reducible rfl)); simp only [Act.put, List.setIfInBounds_toArray, List.set_cons_zero, List.set_cons_succ])
  rw [HDC.out]
  ((with_reducible apply E_run); rfl; rfl; (intro w M; go_simp; (try go_ints); (try simp only [↓IntWalk.iteOmega]); (try with_reducible rfl)); simp only [Act.put, List.setIfInBounds_toArray, List.set_cons_zero, List.set_cons_succ])
  refine E_nil ?_
  intro w19 K M
  clear K
  refine S_done ?_
  replace M := MM.call M.kept
  clear MM HB0  c1 HCS HAS HNVa HCUa
  go_wp2_with fail
  refine (arg_q fb 0 (fs.setIfInBounds (0 + 4) lg) _ u2 xs 2 _ (M.kept.row hr hf13) h7' ((HP.out.keptC M.kept H13.out NB13.out (by decide)).s) (by omega) hu2 (by omega)).mono ?_
  rintro e w20 ⟨rfl, K⟩
  replace M := M.call K
  clear K
  go_wp2_with fail
  refine (arg_q fb 0 (fs.setIfInBounds (0 + 4) lg) _ u3 xs 3 _ (M.kept.row hr hf13) h7' ((HP.out.keptC M.kept H13.out NB13.out (by decide)).s) (by omega) hu3 (by omega)).mono ?_
  rintro e w21 ⟨rfl, K⟩
  replace M := M.call K
  clear K
  go_wp2_with fail
  refine (read_any fb 0 (fs.setIfInBounds (0 + 4) lg) nilS u2 u3 [] 0 0 _ (M.kept.row hr hf13) ha' (NatV.nil _) (N2.out.keptC M.kept H13.out NB13.out) (N3.out.keptC M.kept H13.out NB13.out) (by decide) (by decide)).mono ?_
  rintro e w22 ⟨iu, rfl, x1, _, K⟩
  have HIU := hid x1
  have hiu1 := x1.one
  replace M := M.call K
  clear K x1
  go_wp2_with (first
    | ((with_reducible apply W_stV (b := t13) (o := 11) (v := iu)); rfl; rfl; exact hiu1; exact M.r0; exact size40; exact Nat.le_of_ble_eq_true (by kernel_rfl); intro wS K hr3; replace HIU := hid (HIU.out.keptC K M.r0 (frG_nb _ _ _ _ _ _ _ _ _)); rw [show ((frG 4 true sg vn nilS nilS (ad t) (ad a) wnil).toArray).setIfInBounds 11 (iu) = (frG 4 true sg vn nilS iu (ad t) (ad a) wnil).toArray from by kernel_rfl] at hr3; replace M := Mem.callPut (L1 := []) M HB13 K hr3; clear K hr3; simp only [List.nil_append] at M)
    | ((with_reducible apply W_loadAll); rfl; exact M.r1; exact Salg.underlying45; rfl; exact size45; simp only [Act.put, List.setIfInBounds_toArray, List.set_cons_zero, List.set_cons_succ]))
  refine (HT.out.nat _).mono ?_
  rintro e w23 ⟨rfl, K⟩
  replace HIU := hid (HIU.out.kept K)
  replace M := M.call K
  clear K
  go_wp2_with (first
    | ((with_reducible apply W_stV (b := t13) (o := 1) (v := .int .u8 0)); rfl; rfl; exact rfl; exact M.r0; exact size5; exact Nat.le_of_ble_eq_true (by kernel_rfl); intro wS K hr3; replace HIU := hid (HIU.out.keptC K M.r0 (frG_nb _ _ _ _ _ _ _ _ _)); rw [show ((frG 4 true sg vn nilS iu (ad t) (ad a) wnil).toArray).setIfInBounds 1 (.int .u8 0) = (frG 4 true sg vn nilS iu (ad t) (ad a) wnil).toArray from by kernel_rfl] at hr3; replace M := Mem.callPut (L1 := []) M HB13 K hr3; clear K hr3; simp only [List.nil_append] at M)
    | ((with_reducible apply W_loadCell); rfl; exact M.r0; exact (show (frG 4 true sg vn nilS iu (ad t) (ad a) wnil).toArray[1]? = some (.int .u8 0) by kernel_rfl); exact Salg.underlying5; rfl; simp only [Act.put, List.setIfInBounds_toArray, List.set_cons_zero, List.set_cons_succ]))
  have HCS := hid (HC.out.keptK M.kept H13.out)
  have HAS := hid ((AccD.still D).keptC HA.out M.kept H13.out NB13.out (.inr rfl))
  obtain ⟨wz, c1, _⟩ := HCS.out
  have MM := M
  replace M := M.anew []
  refine S_region (by kernel_rfl) ?_
  replace HIU := hid (HIU.out.kept (Kept.refl [] _).drew)
  refine E_stage 0 7 [0, 1, 2, 3, 4, 5, 6] (by kernel_rfl) M.drew ?_
  clear M
  simp only [List.filterMap_cons, List.filterMap_nil, List.getElem?_cons_zero, List.getElem?_cons_succ]
  ((with_reducible apply E_run); rfl; rfl; (intro w M; go_simp; (try go_ints); (try simp only [↓IntWalk.iteOmega]); (try with_reducible rfl)); simp only [Act.put, List.setIfInBounds_toArray, List.set_cons_zero, List.set_cons_succ])
  ((with_reducible apply E_run); rfl; rfl; (intro w M; go_simp; (try go_ints); (try simp only [↓IntWalk.iteOmega]); (try with_reducible rfl)); simp only [Act.put, List.setIfInBounds_toArray, List.set_cons_zero, List.set_cons_succ])
  ((with_reducible apply E_run); rfl; rfl; (intro w M; go_simp; (try go_ints); (try simp only [↓IntWalk.iteOmega]); (try with_reducible rfl)); simp only [Act.put, List.setIfInBounds_toArray, List.set_cons_zero, List.set_cons_succ])
  ((with_reducible apply E_run); rfl; rfl; (intro w M; exact run_loadAll M.r1 rfl Salg.underlying45 rfl size45); simp only [Act.put, List.setIfInBounds_toArray, List.set_cons_zero, List.set_cons_succ])
  refine E_call rfl Salg.func85 (by kernel_rfl) (by kernel_rfl) (args := [.pointer (some ⟨c, 0, none⟩), A8 (ad t)]) rfl ?_
  intro w1 K M
  replace HIU := hid (HIU.out.kept K)
  clear K
  refine (account_D c 119 _ E.vz D dt (ad t) _ (M.kept.row c1 (by simp)) (chN_get _ _ _ _ (by decide)) ((AccD.still D).kept HAS.out M.kept) rfl HDT.out).mono ?_
  rintro e w24 ⟨nvt, bvt, cut, rfl, xHNVt, xHBVt, xHCUt, K⟩
  have HNVt := hid xHNVt
  have HBVt := hid xHBVt
  have HCUt := hid xHCUt
  clear xHNVt xHBVt xHCUt
  replace HIU := hid (HIU.out.kept K)
  replace M := M.call K
  refine ⟨_, rfl, trivial, M, ?_⟩
  clear K
  simp only [Act.put, List.setIfInBounds_toArray, List.set_cons_zero, List.set_cons_succ]
  ((with_reducible apply E_run (v := cut)); rfl; rfl; (intro w M; kernel_rfl); simp only [Act.put, List.setIfInBounds_toArray, List.set_cons_zero, List.set_cons_succ])
  refine E_call rfl Salg.func96 (by kernel_rfl) (by kernel_rfl) (args := [cut]) rfl ?_
  intro w1 K M
  replace HCUt := hid (HCUt.out.kept K)
  replace HIU := hid (HIU.out.kept K)
  clear K
  refine (bytesOf_all cut dt.ds _ HCUt.out).mono ?_
  rintro e w25 ⟨cu2, rfl, xHCU, K⟩
  have HCU := hid xHCU
  clear xHCU
  replace HCUt := hid (HCUt.out.kept K)
  replace HIU := hid (HIU.out.kept K)
  replace M := M.call K
  refine ⟨_, rfl, trivial, M, ?_⟩
  clear K
  simp only [Act.put, List.setIfInBounds_toArray, List.set_cons_zero, List.set_cons_succ]
  refine E_nil ?_
  intro w26 K M
  replace HIU := hid (HIU.out.kept K)
  replace HCU := hid (HCU.out.kept K)
  clear K
  replace M := MM.call M.kept
  clear MM HCS HAS c1 HNVt HBVt HCUt
  have hcu1 := HCU.out.one
  refine S_seg 7 9 (by kernel_rfl) (by decide) ?_
  simp only [List.take_succ_cons, List.take_zero, List.drop_zero, List.drop_succ_cons, Nat.sub_zero, Nat.reduceSub]
  go_wp2_with ((with_reducible apply W_stV (b := t13) (o := 10) (v := cu2)); rfl; rfl; exact hcu1; exact M.r0; exact size40; exact Nat.le_of_ble_eq_true (by kernel_rfl); intro wS K hr3; replace HIU := hid (HIU.out.keptC K M.r0 (frG_nb _ _ _ _ _ _ _ _ _)); replace HCU := hid (HCU.out.keptC K M.r0 (frG_nb _ _ _ _ _ _ _ _ _)); rw [show ((frG 4 true sg vn nilS iu (ad t) (ad a) wnil).toArray).setIfInBounds 10 (cu2) = (frG 4 true sg vn cu2 iu (ad t) (ad a) wnil).toArray from by kernel_rfl] at hr3; replace M := Mem.callPut (L1 := []) M HB13 K hr3; clear K hr3; simp only [List.nil_append] at M)
  refine S_done ?_
  go_wp2_with fail
  refine (arg_q fb 0 (fs.setIfInBounds (0 + 4) lg) _ u4 xs 4 _ (M.kept.row hr hf13) h7' ((HP.out.keptC M.kept H13.out NB13.out (by decide)).s) (by omega) hu4 (by omega)).mono ?_
  rintro e w27 ⟨rfl, K⟩
  replace HIU := hid (HIU.out.kept K)
  replace HCU := hid (HCU.out.kept K)
  replace M := M.call K
  clear K
  go_wp2_with fail
  refine (arg_q fb 0 (fs.setIfInBounds (0 + 4) lg) _ u5 xs 5 _ (M.kept.row hr hf13) h7' ((HP.out.keptC M.kept H13.out NB13.out (by decide)).s) (by omega) hu5 (by omega)).mono ?_
  rintro e w28 ⟨rfl, K⟩
  replace HIU := hid (HIU.out.kept K)
  replace HCU := hid (HCU.out.kept K)
  replace M := M.call K
  clear K
  go_wp2_with fail
  have hrow := M.kept.row hr hf13
  refine (wait_any fb 0 6 0 0 (fs.setIfInBounds (0 + 4) lg) _ u4 u5 xs _ hrow h7' ((HP.out.keptC M.kept H13.out NB13.out (by decide)).s) (N4.out.keptC M.kept H13.out NB13.out) (N5.out.keptC M.kept H13.out NB13.out) (by omega) (by omega)).mono ?_
  rintro e w29 ⟨r29, p', r6, r7, rfl, K1, hr29, x1, x2, x3⟩
  have HSV := hid x1
  have HR7 := hid x3
  have hr61 := x2.one
  replace HP := hid ((HP.out.keptC M.kept H13.out NB13.out (by decide)).keptC K1 hrow HNB2.out (by decide))
  replace HLG := hid ((HLG.out.keptC M.kept H13.out NB13.out).keptC K1 hrow HNB2.out)
  replace HSG := hid ((HSG.out.keptC M.kept H13.out NB13.out).keptC K1 hrow HNB2.out)
  replace HVN := hid ((HVN.out.keptC M.kept H13.out NB13.out).keptC K1 hrow HNB2.out)
  replace HIU := hid (HIU.out.keptC K1 hrow HNB2.out)
  replace HCU := hid (HCU.out.keptC K1 hrow HNB2.out)
  replace HC := hid ((HC.out.keptK M.kept H13.out).frame K1 hrow)
  replace HA := hid ((AccD.still D).keptC ((AccD.still D).keptC HA.out M.kept H13.out NB13.out (.inr rfl)) K1 hrow HNB2.out (.inr rfl))
  have HK2 : Hid (Kept [t13, c, fb] w w29) := HK1.out.trans ((M.kept.mono (by intro k hk; simp at hk ⊢; omega)).trans (K1.mono (by simp)))
  have H13' := hid (K1.row M.r0 (by simpa using h13f))
  clear x1 x2 x3 K1 M HK1 hrow hr
  obtain ⟨fs2, hfs2⟩ : ∃ fs2, fs2 = (((fs.setIfInBounds (0 + 4) lg).setIfInBounds (0 + 8) (.slice p' (xs.length - 6) (xs.length - 6))).setIfInBounds (0 + 6) r6).setIfInBounds (0 + 7) r7 := ⟨_, rfl⟩
  rw [← hfs2] at hr29
  have HFS2 := hid hfs2
  clear hfs2
  have hs2 : fs2.size = cap * 60 := by rw [HFS2.out]; simp only [Array.size_setIfInBounds]; exact hz
  have HNB3 := hid (not_bytes_at (tc := 142) (cs := fs2) (i := 0 + 8) (p := p') (n := xs.length - 6) (m := xs.length - 6) (by rw [HFS2.out, Array.getElem?_setIfInBounds_ne (by decide), Array.getElem?_setIfInBounds_ne (by decide), Array.getElem?_setIfInBounds_self_of_lt (by simp; omega)]))
  go_wp2_with ((with_reducible apply W_loadAll); rfl; exact H13'.out; exact Salg.underlying142; rfl; exact (by kernel_rfl); simp only [Act.put, List.setIfInBounds_toArray, List.set_cons_zero, List.set_cons_succ])
  refine (enterY1 c fb cap 4 t a true fs2 _ E rt sg vn cu2 iu (AccD D) _ HC.out (AccD.still _) hr29 HNB3.out hs2 hcap hc1 hsg1 HVN1.out hcu1 hiu1 (by decide) (fun w => creates_four w) (fun w' K' => clone_D c E _ rt _ [] D w' (HC.out.kept K') ((AccD.still D).kept HA.out K') hD0 hD20 hl0 hl2 (.inl hmd)) (fun w' K' => (move_Z c 0 (ad a) (ad t) E _ rt vn _ D da w' (HC.out.kept K') ((AccD.still D).kept HA.out K') rfl rfl (ad_small ha) (ad_small HT.out.lt) HDA.out hB (Nat.zero_le _) (HVN.out.kept K') rfl).mono fun e w'' ⟨r, he, K3⟩ => ⟨r, E.vz, he, HC.out.kept (K'.trans K3), (AccD.still D).kept HA.out (K'.trans K3), K3.mono (by simp)⟩)).mono ?_
  rintro e w30 ⟨r30, fb', cap', cur, a0, a1, a3, a6, vz, rfl, y1, y2, y3, y4, y5, y6, y6b, y6c, y7a, y7b, y7c, y7d, y8, yk⟩
  have Y1 := hid y1
  have Y2 := hid y2
  have Y4 := hid y4
  have Y5 := hid y5
  have Y8 := hid y8
  have YK := hid yk
  have hX : Hard [c, fb] w29 := by
    obtain ⟨wz, c1, _⟩ := HC.out
    intro x hx
    simp only [List.mem_cons, List.mem_singleton, List.not_mem_nil, or_false] at hx
    rcases hx with rfl | rfl
    · exact ⟨_, 119, c1, .inl rfl, chy_nb _ _ _ _⟩
    · exact ⟨_, 142, hr29, .inr rfl, HNB3.out⟩
  have HHX := hid hX
  clear y1 y2 y4 y5 y8 yk HC HA hX
  go_wp2_with fail
  go_end0
  have e2 : ∀ k, k ≠ 0 + 4 → k ≠ 0 + 6 → k ≠ 0 + 7 → k ≠ 0 + 8 → fs2[k]? = fs[k]? := by
    intro k k4 k6 k7 k8
    rw [HFS2.out, Array.getElem?_setIfInBounds_ne (by omega), Array.getElem?_setIfInBounds_ne (by omega), Array.getElem?_setIfInBounds_ne (by omega), Array.getElem?_setIfInBounds_ne (by omega)]
  have hX := HHX.out
  have hnl : xs.length - 6 = 0 := by omega
  have hK30 : Kept [c, fb] w w30 := by
    have := HK2.out
    refine ⟨YK.out.os.trans this.os, YK.out.tape.trans this.tape, YK.out.output.trans this.output, Nat.le_trans this.size YK.out.size, fun k hk hx => ?_⟩
    rw [YK.out.block k (Nat.lt_of_lt_of_le hk this.size) hx]
    refine this.block k hk ?_
    simp at hx ⊢
    refine ⟨?_, hx⟩
    rintro rfl
    have := h13w
    omega
  have HSV0 : RowV w30 89 (.slice p' (xs.length - 6) (xs.length - 6)) [] := by
    have := HSV.out.keptN YK.out hX
    rw [hnl, List.take_zero] at this
    rw [hnl]
    exact this
  refine ⟨_, fb', cap', cur, pv, lg, .slice p' (xs.length - 6) (xs.length - 6), r7, cu2, sg, vn, iu, a0, a1, a3, a6, vz, rfl, Y1.out, Y2.out, y3.imp id (fun h => Nat.le_trans HK2.out.size h), ?_, ?_, ?_, ?_, ?_, ?_, ⟨r6, ?_, hr61⟩, ⟨HP.out.p.keptN YK.out hX, HLG.out.keptN YK.out hX, HSV0, ⟨rfl, fun k v n i1 => by simp at i1⟩⟩, HR7.out.keptN YK.out hX, Y5.out, HSG.out.keptN YK.out hX, HVN.out.keptN YK.out hX, HCU.out.keptN YK.out hX, by simpa [cutB] using HIU.out.keptN YK.out hX, y6, y6b, y6c, ⟨y7a, y7b, y7c, y7d⟩, Y8.out, hK30⟩
  · intro k k60 k3 k4 k6 k7 k8 k9
    rw [Y4.out k k60, e2 k k4 k6 k7 k8]
    exact HX2.out k (by omega) (by omega) (by omega) (by omega)
  · rw [Y4.out (0 + 3) (by decide), e2 (0 + 3) (by decide) (by decide) (by decide) (by decide)]
    exact h3
  · rw [Y4.out (0 + 4) (by decide), HFS2.out, Array.getElem?_setIfInBounds_ne (by decide), Array.getElem?_setIfInBounds_ne (by decide), Array.getElem?_setIfInBounds_ne (by decide), Array.getElem?_setIfInBounds_self_of_lt z4]
  · rw [Y4.out (0 + 7) (by decide), HFS2.out, Array.getElem?_setIfInBounds_self_of_lt (by simp; omega)]
  · rw [Y4.out (0 + 8) (by decide), HFS2.out, Array.getElem?_setIfInBounds_ne (by decide), Array.getElem?_setIfInBounds_ne (by decide), Array.getElem?_setIfInBounds_self_of_lt (by simp; omega)]
  · rw [Y4.out (0 + 9) (by decide), e2 (0 + 9) (by decide) (by decide) (by decide) (by decide)]
    exact hmv
  · rw [Y4.out (0 + 6) (by decide), HFS2.out, Array.getElem?_setIfInBounds_ne (by decide), Array.getElem?_setIfInBounds_self_of_lt (by simp; omega)]

set_option maxHeartbeats 4000000 in
set_option maxRecDepth 100000 in
theorem enterCall2_call (c fb cap m G A t a b V : Nat) (sb : Bool) (E : XEnv) (fs0 : Array Value) (cv vv rt : Value) (la : List (List Nat)) (D : List AD) (da dt d2 : AD) (w : World) (hC : ChY w c E (.slice (some ⟨fb, 0, none⟩) 2 cap) rt la) (hA : AccD D w E.vz) (hF : FrameQ w fb 60 fs0 m G [0, 0, 0, 0, V, t, A] nilS) (hf : FrB fs0 60 sb cv) (hse : fs0.extract (60 + 12) (60 + 12 + 20) = ((ad a).map n8).toArray) (ha : a < 256) (hT : TargetOK t) (hda : D.find? (fun x => x.adr == ad a) = some da) (hdt : D.find? (fun x => x.adr == ad t) = some dt) (hB : da.B < 256 ^ 100) (hVB : V ≤ da.B) (hl0 : 0 < (adWith la (ad t)).length) (hl1 : la.length ≤ 15) (hl2 : (adWith la (ad t)).length ≤ 20) (hD0 : 0 < D.length) (hD20 : D.length ≤ 20) (hmd : E.md = nilS) (hsz : fs0.size = cap * 60) (hcap : cap ≤ maxLen) (hc1 : 2 ≤ cap) (hm : m ≤ 1000) (hG : G < 1000000) (hV0 : V = 0) :
    Calls Salg.prog 194 #[.pointer (some ⟨c, 0, none⟩), .pointer (some ⟨fb, 60, none⟩), .int .u8 241] w fun e w' => ∃ (r : Value) (fb' cap' : Nat) (cur : Array Value) (pv gv sv r7 cw sg vn iu a0 a1 a3 a6 vz' : Value), e = .returned r ∧ ChY w' c { E with vz := vz' } (.slice (some ⟨fb', 0, none⟩) 3 cap') nilS (adWith la (ad t)) ∧ w'.heap[fb']? = some (.cells cur 142 (0, 0)) ∧ (fb' = fb ∨ w.heap.size ≤ fb') ∧ (∀ k, k < 120 → k ≠ 60 + 3 → k ≠ 60 + 4 → k ≠ 60 + 6 → k ≠ 60 + 7 → k ≠ 60 + 8 → k ≠ 60 + 9 → cur[k]? = fs0[k]?) ∧ cur[60 + 3]? = some pv ∧ cur[60 + 4]? = some gv ∧ cur[60 + 7]? = some r7 ∧ cur[60 + 8]? = some sv ∧ cur[60 + 9]? = some nilS ∧ (∃ r6 : Value, cur[60 + 6]? = some r6 ∧ r6.oneCell' = true) ∧ PartsV w' pv gv sv [] m (G - (min A (G - G / 64))) [] ∧ NumV w' r7 0 ∧ (∀ k, k < 60 → cur[120 + k]? = (frG 2 sb sg vn cw iu (ad t) (ad a) (wrow5 a0 a1 a3 a6))[k]?) ∧ NumV w' sg (min A (G - G / 64)) ∧ NumV w' vn V ∧ NatV w' cw dt.ds ∧ NatV w' iu [] ∧ cur.size = cap' * 60 ∧ cap' ≤ maxLen ∧ 3 ≤ cap' ∧ (a0.oneCell' = true ∧ a1.oneCell' = true ∧ a3.oneCell' = true ∧ a6.oneCell' = true) ∧ AccD D w' vz' ∧ Kept [c, fb] w w' := by
  have M := Mem.start w []
  obtain ⟨fs, pv, gv, sv, xs, hr, h0, h2, h3, h4, h5, h6, h7, h8, h9, hmv⟩ := hF
  have hxl : xs.length = 7 := by have := h9.1; simpa using this
  obtain ⟨u0, hu0⟩ : ∃ u, xs[xs.length - 1 - 0]? = some u := ⟨_, List.getElem?_eq_getElem (by omega)⟩
  obtain ⟨u1, hu1⟩ : ∃ u, xs[xs.length - 1 - 1]? = some u := ⟨_, List.getElem?_eq_getElem (by omega)⟩
  obtain ⟨u2, hu2⟩ : ∃ u, xs[xs.length - 1 - 2]? = some u := ⟨_, List.getElem?_eq_getElem (by omega)⟩
  obtain ⟨u3, hu3⟩ : ∃ u, xs[xs.length - 1 - 3]? = some u := ⟨_, List.getElem?_eq_getElem (by omega)⟩
  obtain ⟨u4, hu4⟩ : ∃ u, xs[xs.length - 1 - 4]? = some u := ⟨_, List.getElem?_eq_getElem (by omega)⟩
  obtain ⟨u5, hu5⟩ : ∃ u, xs[xs.length - 1 - 5]? = some u := ⟨_, List.getElem?_eq_getElem (by omega)⟩
  obtain ⟨u6, hu6⟩ : ∃ u, xs[xs.length - 1 - 6]? = some u := ⟨_, List.getElem?_eq_getElem (by omega)⟩
  obtain ⟨p, cp, rfl⟩ : ∃ p cap, sv = .slice p xs.length cap := by
    rcases h8 with ⟨rfl, rfl⟩ | ⟨g, cap, cur, rfl, _⟩
    · exact ⟨none, 0, rfl⟩
    · exact ⟨_, _, rfl⟩
  have HNB := hid (not_bytes_at (tc := 142) h7)
  have HP : Hid (PartsV w pv gv (.slice p xs.length cp) xs m G [0, 0, 0, 0, V, t, A]) := ⟨h4, h6, h8, h9⟩
  have N0 : Hid (NumV w u0 A) := h9.2 _ _ _ hu0 (by rw [hxl]; rfl)
  have N1 : Hid (NumV w u1 t) := h9.2 _ _ _ hu1 (by rw [hxl]; rfl)
  have N2 : Hid (NumV w u2 V) := h9.2 _ _ _ hu2 (by rw [hxl]; rfl)
  have N3 : Hid (NumV w u3 0) := h9.2 _ _ _ hu3 (by rw [hxl]; rfl)
  have N4 : Hid (NumV w u4 0) := h9.2 _ _ _ hu4 (by rw [hxl]; rfl)
  have N5 : Hid (NumV w u5 0) := h9.2 _ _ _ hu5 (by rw [hxl]; rfl)
  have N6 : Hid (NumV w u6 0) := h9.2 _ _ _ hu6 (by rw [hxl]; rfl)
  have hz : fs.size = cap * 60 := h0.trans hsz
  have g2 := (h2 (60 + 2) (by decide) (by decide) (by decide) (by decide)).trans hf.f2
  have HSE : Hid (fs.extract (60 + 12) (60 + 12 + 20) = ((ad a).map n8).toArray) := by
    have e := ext_same (a := 60 + 12) (n := 20) h0 fun k k1 k2 => h2 k (by omega) (by omega) (by omega) (by omega)
    exact e.trans hse
  have HX2 := hid h2
  have HC := hid hC
  have HA := hid hA
  have HT := hid hT
  have HDA := hid hda
  have HDT := hid hdt
  have hfl := lt_of_row hr
  have hfc : fb ∉ [c] := by
    obtain ⟨wz, y, _⟩ := hC
    exact row_ne y hr (by intro h; injection h with _ h _; exact absurd h (by decide))
  have hcl : c < w.heap.size := by
    obtain ⟨_, y, _⟩ := hC
    exact lt_of_row y
  have z4 : 60 + 4 < fs.size := by omega
  have hdc : decide (cmpI da.B V < 0) = false := by
    unfold cmpI
    rw [if_neg (by omega)]
    split <;> rfl
  have HDC := hid hdc
  clear hdc
  clear h2 h4 h6 h8 h9 hC hA hf hse h0 hT hda hdt  
  go_enter Salg.func194, Salg.ntmps194
  go_wp2_with fail
  refine (arity_call _).mono ?_
  rintro e w1 ⟨rfl, hw⟩
  replace hw := hw.symm
  subst hw
  go_wp2_with fail
  refine (arg_q fb 60 fs _ u0 xs 0 _ (M.kept.row hr (by simp)) h7 (HP.out.s.kept M.kept) (by omega) hu0 (by omega)).mono ?_
  rintro e w2 ⟨rfl, K⟩
  replace M := M.call K
  clear K
  go_wp2_with fail
  refine (arg_q fb 60 fs _ u1 xs 1 _ (M.kept.row hr (by simp)) h7 (HP.out.s.kept M.kept) (by omega) hu1 (by omega)).mono ?_
  rintro e w3 ⟨rfl, K⟩
  replace M := M.call K
  clear K
  go_wp2_with fail
  refine (HT.out.adr u1 _ (N1.out.kept M.kept)).mono ?_
  rintro e w4 ⟨rfl, K⟩
  replace M := M.call K
  clear K
  go_wp2_with (first
    | ((with_reducible apply L_allocA M); exact zero45; clear M; intro t10 w5 ht10 M; simp only [Act.put, List.setIfInBounds_toArray, List.set_cons_zero, List.set_cons_succ])
    | ((with_reducible apply W_storeK (b := t10) (vs := ((ad t).map n8).toArray)); rfl; rfl; exact M.r0; exact size45; rfl; exact one8 _; intro w6 K1 hr3; replace M := Mem.callPut (L1 := []) M (Or.inr ht10) K1 hr3; clear K1 hr3; simp only [List.nil_append] at M))
  refine S_region (by kernel_rfl) ?_
  refine E_stage 0 4 [0, 1, 2, 3] (by kernel_rfl) M.drew ?_
  clear M
  simp only [List.filterMap_cons, List.filterMap_nil, List.getElem?_cons_zero, List.getElem?_cons_succ]
  ((with_reducible apply E_run); rfl; rfl; (intro w M; go_simp; (try go_ints); (try simp only [↓IntWalk.iteOmega]); (try with_reducible rfl)); simp only [Act.put, List.setIfInBounds_toArray, List.set_cons_zero, List.set_cons_succ])
  ((with_reducible apply E_run); rfl; rfl; (intro w M; go_simp; (try go_ints); (try simp only [↓IntWalk.iteOmega]); (try with_reducible rfl)); simp only [Act.put, List.setIfInBounds_toArray, List.set_cons_zero, List.set_cons_succ])
  ((with_reducible apply E_run); rfl; rfl; (intro w M; go_simp; (try go_ints); (try simp only [↓IntWalk.iteOmega]); (try with_reducible rfl)); simp only [Act.put, List.setIfInBounds_toArray, List.set_cons_zero, List.set_cons_succ])
  ((with_reducible apply E_run); rfl; rfl; (intro w M; exact run_loadAll M.r0 rfl Salg.underlying45 rfl size45); simp only [Act.put, List.setIfInBounds_toArray, List.set_cons_zero, List.set_cons_succ])
  refine E_nil ?_
  intro w7 K M
  clear K
  refine S_seg 4 5 (by kernel_rfl) (by decide) ?_
  simp only [List.take_succ_cons, List.take_zero, List.drop_zero, List.drop_succ_cons, Nat.sub_zero, Nat.reduceSub]
  go_wp2_with fail
  refine (warm_Y c t E _ rt la _ (HC.out.kept M.kept) HT.out.lt (by omega)).mono ?_
  rintro e w8 ⟨r8, rfl, x8, K1⟩
  obtain ⟨wz, c1, _⟩ := HC.out.kept M.kept
  have HO := hid (chy_nb E wz (.slice (some ⟨fb, 0, none⟩) 2 cap) rt)
  replace hr := K1.row (M.kept.row hr (by simp)) hfc
  have h10c : t10 ∉ [c] := by simp; omega
  have H10 := hid (K1.row M.r0 h10c)
  replace HP := hid ((HP.out.kept M.kept).keptC K1 c1 HO.out (by decide))
  replace HA := hid ((AccD.still D).keptC ((AccD.still D).kept HA.out M.kept) K1 c1 HO.out (.inl rfl))
  replace N0 := hid ((N0.out.kept M.kept).keptC K1 c1 HO.out)
  replace N2 := hid ((N2.out.kept M.kept).keptC K1 c1 HO.out)
  replace N3 := hid ((N3.out.kept M.kept).keptC K1 c1 HO.out)
  replace N4 := hid ((N4.out.kept M.kept).keptC K1 c1 HO.out)
  replace N5 := hid ((N5.out.kept M.kept).keptC K1 c1 HO.out)
  replace N6 := hid ((N6.out.kept M.kept).keptC K1 c1 HO.out)
  have HK : Hid (Kept [c, fb] w w8) := (M.kept.mono (by simp)).trans (K1.mono (by simp))
  replace HC : Hid (ChY w8 c E (.slice (some ⟨fb, 0, none⟩) 2 cap) rt (adWith la (ad t))) := x8
  have h10f : t10 ≠ fb := by omega
  have h10l := lt_of_row H10.out
  clear x8 K1 M c1 HO
  have M : Mem w8 [] [(t10, .cells ((ad t).map n8).toArray 45 (0, 0))] w8 := (Mem.start w8 []).add H10.out (by simp)
  go_wp2_with fail
  refine S_done ?_
  go_wp2_with fail
  refine (arg_q fb 60 fs _ u2 xs 2 _ (M.kept.row hr (by simp)) h7 (HP.out.s.kept M.kept) (by omega) hu2 (by omega)).mono ?_
  rintro e w8b ⟨rfl, K⟩
  replace M := M.call K
  clear K
  go_wp2_with fail
  refine S_region (by kernel_rfl) ?_
  refine E_float 0 13 [0, 1, 2, 3, 4, 6, 7, 8, 9, 10, 5, 11] 12 13 _ (by kernel_rfl) ⟨⟨_, _, _, _, _, rfl, zero142, rfl⟩⟩ (by simp) M.drew ?_
  clear M
  simp only [List.filterMap_cons, List.filterMap_nil, List.getElem?_cons_zero, List.getElem?_cons_succ]
  ((with_reducible apply E_run); rfl; rfl; (intro w M; go_simp; (try go_ints); (try simp only [↓IntWalk.iteOmega]); (try with_reducible rfl)); simp only [Act.put, List.setIfInBounds_toArray, List.set_cons_zero, List.set_cons_succ])
  ((with_reducible apply E_run); rfl; rfl; (intro w M; go_simp; (try go_ints); (try simp only [↓IntWalk.iteOmega]); (try with_reducible rfl)); simp only [Act.put, List.setIfInBounds_toArray, List.set_cons_zero, List.set_cons_succ])
  ((with_reducible apply E_run); rfl; rfl; (intro w M; go_simp; (try go_ints); (try simp only [↓IntWalk.iteOmega]); (try with_reducible rfl)); simp only [Act.put, List.setIfInBounds_toArray, List.set_cons_zero, List.set_cons_succ])
  ((with_reducible apply E_run); rfl; rfl; (intro w M; exact run_loadCell (M.kept.row hr (by simp)) rfl g2 Salg.underlying4 rfl); simp only [Act.put, List.setIfInBounds_toArray, List.set_cons_zero, List.set_cons_succ])
  ((with_reducible apply E_run); rfl; rfl; (intro w M; go_simp; (try go_ints); (try simp only [↓IntWalk.iteOmega]); (try with_reducible rfl)); simp only [Act.put, List.setIfInBounds_toArray, List.set_cons_zero, List.set_cons_succ])
  ((with_reducible apply E_run); rfl; rfl; (intro w M; exact run_loadAll M.r0 rfl Salg.underlying45 rfl size45); simp only [Act.put, List.setIfInBounds_toArray, List.set_cons_zero, List.set_cons_succ])
  ((with_reducible apply E_run); rfl; rfl; (intro w M; go_simp; (try go_ints); (try simp only [↓IntWalk.iteOmega]); (try with_reducible rfl)); simp only [Act.put, List.setIfInBounds_toArray, List.set_cons_zero, List.set_cons_succ])
  ((with_reducible apply E_run); rfl; rfl; (intro w M; go_simp; (try go_ints); (try simp only [↓IntWalk.iteOmega]); (try with_reducible rfl)); simp only [Act.put, List.setIfInBounds_toArray, List.set_cons_zero, List.set_cons_succ])
  ((with_reducible apply E_run); rfl; rfl; (intro w M; go_simp; (try go_ints); (try simp only [↓IntWalk.iteOmega]); (try with_reducible rfl)); simp only [Act.put, List.setIfInBounds_toArray, List.set_cons_zero, List.set_cons_succ])
  ((with_reducible apply E_run (v := .agg ((ad a).map n8).toArray)); rfl; rfl; (intro w M; exact run_loadX (n := 20) (M.kept.row hr (by simp)) rfl Salg.underlying45 rfl size45 (by omega) HSE.out); simp only [Act.put, List.setIfInBounds_toArray, List.set_cons_zero, List.set_cons_succ])
  refine E_call rfl Salg.func158 (by kernel_rfl) (by kernel_rfl) (args := [u2]) rfl ?_
  intro w1 K M
  clear K
  refine (norm_num u2 V _ (N2.out.kept M.kept)).mono ?_
  rintro e w9 ⟨vn, rfl, xHVN, K⟩
  have HVN := hid xHVN
  clear xHVN
  replace M := M.call K
  refine ⟨_, rfl, K.mono (by simp), M, ?_⟩
  clear K
  simp only [Act.put, List.setIfInBounds_toArray, List.set_cons_zero, List.set_cons_succ]
  ((with_reducible apply E_run (v := .agg (frG 2 sb nilS vn nilS nilS (ad t) (ad a) wnil).toArray)); rfl; rfl; (intro w M; obtain ⟨p0, q0, s0, e0⟩ := HVN.out.slice; subst e0; kernel_rfl); simp only [Act.put, List.setIfInBounds_toArray, List.set_cons_zero, List.set_cons_succ])
  refine E_nil ?_
  intro w10 K1 M
  replace HVN := hid (HVN.out.kept K1)
  clear K1
  intro t13 w11 K1 ht13 M
  replace HVN := hid (HVN.out.kept K1)
  clear K1
  simp only [Act.put, List.setIfInBounds_toArray, List.set_cons_zero, List.set_cons_succ]
  refine S_seg 13 14 (by kernel_rfl) (by decide) ?_
  simp only [List.take_succ_cons, List.take_zero, List.drop_zero, List.drop_succ_cons, Nat.sub_zero, Nat.reduceSub]
  have HVN1 := hid HVN.out.one
  have HB13 : t13 ∈ ([] : List Nat) ∨ w8.heap.size ≤ t13 := Or.inr ht13
  go_wp2_with ((with_reducible apply W_storeK (b := t13) (vs := (frG 2 sb nilS vn nilS nilS (ad t) (ad a) wnil).toArray)); rfl; rfl; exact M.r0; exact size142; rfl; exact frG_oneN rfl HVN1.out rfl rfl; intro w12 K1 hr3; replace HVN := hid (HVN.out.keptC K1 M.r0 (not_bytes_at (i := 3) (p := none) (n := 0) (m := 0) (by kernel_rfl))); replace M := Mem.callPut (L1 := []) M HB13 K1 hr3; clear K1 hr3; simp only [List.nil_append] at M)
  refine S_done ?_
  go_wp2_with (first
    | ((with_reducible apply W_loadCell); rfl; exact M.kept.row hr (by simp); exact h5; exact Salg.underlying89; rfl; simp only [Act.put, List.setIfInBounds_toArray, List.set_cons_zero, List.set_cons_succ]))
  refine (sentGas_any gv u0 G A _ (HP.out.g.kept M.kept) (N0.out.kept M.kept) hG).mono ?_
  rintro e w13 ⟨sg, rfl, xHSG, K⟩
  have HSG := hid xHSG
  replace HVN := hid (HVN.out.kept K)
  replace M := M.call K
  clear K xHSG
  go_wp2_with ((with_reducible apply W_loadCell); rfl; exact M.kept.row hr (by simp); exact h5; exact Salg.underlying89; rfl; simp only [Act.put, List.setIfInBounds_toArray, List.set_cons_zero, List.set_cons_succ])
  refine (less_any gv sg G _ _ (HP.out.g.kept M.kept) HSG.out (by omega) (by omega)).mono ?_
  rintro e w14 ⟨lg, rfl, xHLG, K⟩
  have HLG := hid xHLG
  replace HSG := hid (HSG.out.kept K)
  replace HVN := hid (HVN.out.kept K)
  replace M := M.call K
  clear K xHLG
  have hrow := M.kept.row hr (by simp)
  have h13f : t13 ≠ fb := by have := lt_of_row hr; omega
  have h13w : w.heap.size ≤ t13 := Nat.le_trans HK.out.size ht13
  have hsg1 := HSG.out.one
  go_wp2_with (first
    | ((with_reducible apply W_stV (b := fb) (o := 60 + 4) (v := lg)); rfl; rfl; exact HLG.out.one; exact hrow; exact size89; exact z4; intro w15a K1 hr15)
    | ((with_reducible apply W_stV (b := t13) (o := 4) (v := sg)); rfl; rfl; exact hsg1; exact K1.row M.r0 (by simpa using h13f); exact size89; exact Nat.le_of_ble_eq_true (by kernel_rfl); intro w15 K2 hr16; rw [show ((frG 2 sb nilS vn nilS nilS (ad t) (ad a) wnil).toArray).setIfInBounds 4 sg = (frG 2 sb sg vn nilS nilS (ad t) (ad a) wnil).toArray from by kernel_rfl] at hr16))
  have NB4 := hid (frG_nb 2 sb nilS vn nilS nilS (ad t) (ad a) wnil)
  have h13a := K1.row M.r0 (by simpa using h13f)
  have HNB2 := hid (not_bytes_at (tc := 142) (cs := fs.setIfInBounds (60 + 4) lg) (i := 60 + 8) ((Array.getElem?_setIfInBounds_ne (by decide)).trans h7))
  replace HP := hid (((HP.out.kept M.kept).keptC K1 hrow HNB.out (by decide)).keptC K2 h13a NB4.out (by decide))
  replace HA := hid ((AccD.still D).keptC ((AccD.still D).keptC ((AccD.still D).kept HA.out M.kept) K1 hrow HNB.out (.inr rfl)) K2 h13a NB4.out (.inr rfl))
  replace N2 := hid (((N2.out.kept M.kept).keptC K1 hrow HNB.out).keptC K2 h13a NB4.out)
  replace N3 := hid (((N3.out.kept M.kept).keptC K1 hrow HNB.out).keptC K2 h13a NB4.out)
  replace N4 := hid (((N4.out.kept M.kept).keptC K1 hrow HNB.out).keptC K2 h13a NB4.out)
  replace N5 := hid (((N5.out.kept M.kept).keptC K1 hrow HNB.out).keptC K2 h13a NB4.out)
  replace N6 := hid (((N6.out.kept M.kept).keptC K1 hrow HNB.out).keptC K2 h13a NB4.out)
  replace HSG := hid ((HSG.out.keptC K1 hrow HNB.out).keptC K2 h13a NB4.out)
  replace HVN := hid ((HVN.out.keptC K1 hrow HNB.out).keptC K2 h13a NB4.out)
  replace HLG := hid ((HLG.out.keptC K1 hrow HNB.out).keptC K2 h13a NB4.out)
  replace HC := hid (((HC.out.kept M.kept).frame K1 hrow).frame K2 h13a)
  have HK1 : Hid (Kept [t13, c, fb] w w15) := (HK.out.mono (by intro k hk; simp at hk ⊢; omega)).trans ((M.kept.mono (by simp)).trans ((K1.mono (by simp)).trans (K2.mono (by simp))))
  replace H10 := hid (K2.row (K1.row M.r1 (by simpa using h10f)) (by simpa using fun h => M.ne01 h.symm))
  have H13 := hid hr16
  have HB13 : t13 ∈ [t13] ∨ w15.heap.size ≤ t13 := Or.inl (by simp)
  have hne : t13 ≠ t10 := M.ne01
  have NB13 := hid (frG_nb 2 sb sg vn nilS nilS (ad t) (ad a) wnil)
  have hf13 : fb ∉ [t13] := by simp; omega
  replace hr := K2.row hr15 hf13
  clear K1 K2 M hrow h13a NB4 HK hr15 hr16
  have M : Mem w15 [t13] [(t13, .cells (frG 2 sb sg vn nilS nilS (ad t) (ad a) wnil).toArray 142 (0, 0)), (t10, .cells ((ad t).map n8).toArray 45 (0, 0))] w15 := ((Mem.start w15 [t13]).add H10.out (by simp)).add H13.out (by simpa using hne)
  have h7' : (fs.setIfInBounds (60 + 4) lg)[60 + 8]? = some (.slice p xs.length cp) := (Array.getElem?_setIfInBounds_ne (by decide)).trans h7
  have ha' : (fs.setIfInBounds (60 + 4) lg)[60 + 9]? = some nilS := (Array.getElem?_setIfInBounds_ne (by decide)).trans hmv
  have HSE2 : Hid ((fs.setIfInBounds (60 + 4) lg).extract (60 + 12) (60 + 12 + 20) = ((ad a).map n8).toArray) := by
    have e := ext_same (fs := fs.setIfInBounds (60 + 4) lg) (fs0 := fs) (a := 60 + 12) (n := 20) (by simp) fun k k1 k2 => Array.getElem?_setIfInBounds_ne (by omega)
    exact e.trans HSE.out
  refine (isZero_lit u2 V true (by simp; exact hV0) _ (N2.out.keptC M.kept H13.out NB13.out)).mono ?_
  rintro e w16 ⟨rfl, K⟩
  replace M := M.call K
  clear K
  go_wp2_with fail
  have HCS := hid (HC.out.keptK M.kept H13.out)
  have HAS := hid ((AccD.still D).keptC HA.out M.kept H13.out NB13.out (.inr rfl))
  have HN2 : Hid (NumV _ u2 V) := (N2.out.keptC M.kept H13.out NB13.out)
  obtain ⟨wz, c1, _⟩ := HCS.out
  have MM := M
  replace M := M.anew []
  refine S_region (by kernel_rfl) ?_
  replace HN2 := hid (HN2.out.kept (Kept.refl [] _).drew)
  refine E_stage 0 21 [0, 1, 2, 3, 4, 5, 6, 7, 8, 9, 10, 11, 12, 13, 14, 17, 15, 16, 18, 19, 20] (by kernel_rfl) M.drew ?_
  clear M
  simp only [List.filterMap_cons, List.filterMap_nil, List.getElem?_cons_zero, List.getElem?_cons_succ]
  ((with_reducible apply E_run); rfl; rfl; (intro w M; go_simp; (try go_ints); (try simp only [↓IntWalk.iteOmega]); (try with_reducible rfl)); simp only [Act.put, List.setIfInBounds_toArray, List.set_cons_zero, List.set_cons_succ])
  ((with_reducible apply E_run); rfl; rfl; (intro w M; go_simp; (try go_ints); (try simp only [↓IntWalk.iteOmega]); (try with_reducible rfl)); simp only [Act.put, List.setIfInBounds_toArray, List.set_cons_zero, List.set_cons_succ])
  ((with_reducible apply E_run); rfl; rfl; (intro w M; go_simp; (try go_ints); (try simp only [↓IntWalk.iteOmega]); (try with_reducible rfl)); simp only [Act.put, List.setIfInBounds_toArray, List.set_cons_zero, List.set_cons_succ])
  ((with_reducible apply E_run); rfl; rfl; (intro w M; exact run_loadCell (M.kept.row c1 (by simp)) rfl (show (chN E wz (.slice (some ⟨fb, 0, none⟩) 2 cap) rt)[9]? = some (.slice (some ⟨fb, 0, none⟩) 2 cap) by kernel_rfl) Salg.underlying115 rfl); simp only [Act.put, List.setIfInBounds_toArray, List.set_cons_zero, List.set_cons_succ])
  ((with_reducible apply E_run); rfl; rfl; (intro w M; go_simp; (try go_ints); (try simp only [↓IntWalk.iteOmega]); (try with_reducible rfl)); simp only [Act.put, List.setIfInBounds_toArray, List.set_cons_zero, List.set_cons_succ])
  ((with_reducible apply E_run); rfl; rfl; (intro w M; go_simp; (try go_ints); (try simp only [↓IntWalk.iteOmega]); (try with_reducible rfl)); simp only [Act.put, List.setIfInBounds_toArray, List.set_cons_zero, List.set_cons_succ])
  ((with_reducible apply E_run); rfl; rfl; (intro w M; go_simp; (try go_ints); (try simp only [↓IntWalk.iteOmega]); (try with_reducible rfl)); simp only [Act.put, List.setIfInBounds_toArray, List.set_cons_zero, List.set_cons_succ])
  ((with_reducible apply E_run); rfl; rfl; (intro w M; go_simp; (try go_ints); (try simp only [↓IntWalk.iteOmega]); (try with_reducible rfl)); simp only [Act.put, List.setIfInBounds_toArray, List.set_cons_zero, List.set_cons_succ])
  ((with_reducible apply E_run); rfl; rfl; (intro w M; go_simp; (try go_ints); (try simp only [↓IntWalk.iteOmega]); (try with_reducible rfl)); simp only [Act.put, List.setIfInBounds_toArray, List.set_cons_zero, List.set_cons_succ])
  ((with_reducible apply E_run); rfl; rfl; (intro w M; go_simp; (try go_ints); (try simp only [↓IntWalk.iteOmega]); (try with_reducible rfl)); simp only [Act.put, List.setIfInBounds_toArray, List.set_cons_zero, List.set_cons_succ])
  ((with_reducible apply E_run); rfl; rfl; (intro w M; go_simp; (try go_ints); (try simp only [↓IntWalk.iteOmega]); (try with_reducible rfl)); simp only [Act.put, List.setIfInBounds_toArray, List.set_cons_zero, List.set_cons_succ])
  ((with_reducible apply E_run); rfl; rfl; (intro w M; go_simp; (try go_ints); (try simp only [↓IntWalk.iteOmega]); (try with_reducible rfl)); simp only [Act.put, List.setIfInBounds_toArray, List.set_cons_zero, List.set_cons_succ])
  ((with_reducible apply E_run); rfl; rfl; (intro w M; go_simp; (try go_ints); (try simp only [↓IntWalk.iteOmega]); (try with_reducible rfl)); simp only [Act.put, List.setIfInBounds_toArray, List.set_cons_zero, List.set_cons_succ])
  ((with_reducible apply E_run); rfl; rfl; (intro w M; go_simp; (try go_ints); (try simp only [↓IntWalk.iteOmega]); (try with_reducible rfl)); simp only [Act.put, List.setIfInBounds_toArray, List.set_cons_zero, List.set_cons_succ])
  ((with_reducible apply E_run (v := .agg ((ad a).map n8).toArray)); rfl; rfl; (intro w M; exact run_loadX (n := 20) (M.kept.row (MM.kept.row hr hf13) (by simp)) rfl Salg.underlying45 rfl size45 (by simp; omega) HSE2.out); simp only [Act.put, List.setIfInBounds_toArray, List.set_cons_zero, List.set_cons_succ])
  ((with_reducible apply E_run); rfl; rfl; (intro w M; go_simp; (try go_ints); (try simp only [↓IntWalk.iteOmega]); (try with_reducible rfl)); simp only [Act.put, List.setIfInBounds_toArray, List.set_cons_zero, List.set_cons_succ])
  refine E_call rfl Salg.func85 (by kernel_rfl) (by kernel_rfl) (args := [.pointer (some ⟨c, 0, none⟩), A8 (ad a)]) rfl ?_
  intro w1 K M
  replace HN2 := hid (HN2.out.kept K)
  clear K
  refine (account_D c 119 _ E.vz D da (ad a) _ (M.kept.row c1 (by simp)) (chN_get _ _ _ _ (by decide)) ((AccD.still D).kept HAS.out M.kept) rfl HDA.out).mono ?_
  rintro e w17 ⟨nva, bva, cua, rfl, xHNVa, xHB0, xHCUa, K⟩
  have HNVa := hid xHNVa
  have HB0 := hid xHB0
  have HCUa := hid xHCUa
  clear xHNVa xHB0 xHCUa
  replace HN2 := hid (HN2.out.kept K)
  replace M := M.call K
  refine ⟨_, rfl, trivial, M, ?_⟩
  clear K
  simp only [Act.put, List.setIfInBounds_toArray, List.set_cons_zero, List.set_cons_succ]
  ((with_reducible apply E_run (v := bva)); rfl; rfl; (intro w M; kernel_rfl); simp only [Act.put, List.setIfInBounds_toArray, List.set_cons_zero, List.set_cons_succ])
  refine E_call rfl Salg.func72 (by kernel_rfl) (by kernel_rfl) (args := [bva, u2]) rfl ?_
  intro w1 K M
  replace HB0 := hid (HB0.out.kept K)
  replace HN2 := hid (HN2.out.kept K)
  clear K
  refine (cmp_num bva u2 da.B V _ HB0.out HN2.out).mono ?_
  rintro e w18 ⟨rfl, K⟩
  replace HB0 := hid (HB0.out.kept K)
  replace HN2 := hid (HN2.out.kept K)
  replace M := M.call K
  refine ⟨_, rfl, trivial, M, ?_⟩
  clear K
  simp only [Act.put, List.setIfInBounds_toArray, List.set_cons_zero, List.set_cons_succ]
  ((with_reducible apply E_run (v := .bool (decide (cmpI da.B V < 0)))); rfl; rfl; (intro w M; go_simp; (try go_ints); (try with_reducible rfl)); simp only [Act.put, List.setIfInBounds_toArray, List.set_cons_zero, List.set_cons_succ])
  rw [HDC.out]
  ((with_reducible apply E_run); rfl; rfl; (intro w M; go_simp; (try go_ints); (try simp only [↓IntWalk.iteOmega]); (try with_reducible rfl)); simp only [Act.put, List.setIfInBounds_toArray, List.set_cons_zero, List.set_cons_succ])
  refine E_nil ?_
  intro w19 K M
  clear K
  refine S_done ?_
  replace M := MM.call M.kept
  clear MM HB0 HN2 c1 HCS HAS HNVa HCUa
  go_wp2_with fail
  refine (arg_q fb 60 (fs.setIfInBounds (60 + 4) lg) _ u3 xs 3 _ (M.kept.row hr hf13) h7' ((HP.out.keptC M.kept H13.out NB13.out (by decide)).s) (by omega) hu3 (by omega)).mono ?_
  rintro e w20 ⟨rfl, K⟩
  replace M := M.call K
  clear K
  go_wp2_with fail
  refine (arg_q fb 60 (fs.setIfInBounds (60 + 4) lg) _ u4 xs 4 _ (M.kept.row hr hf13) h7' ((HP.out.keptC M.kept H13.out NB13.out (by decide)).s) (by omega) hu4 (by omega)).mono ?_
  rintro e w21 ⟨rfl, K⟩
  replace M := M.call K
  clear K
  go_wp2_with fail
  refine (read_any fb 60 (fs.setIfInBounds (60 + 4) lg) nilS u3 u4 [] 0 0 _ (M.kept.row hr hf13) ha' (NatV.nil _) (N3.out.keptC M.kept H13.out NB13.out) (N4.out.keptC M.kept H13.out NB13.out) (by decide) (by decide)).mono ?_
  rintro e w22 ⟨iu, rfl, x1, _, K⟩
  have HIU := hid x1
  have hiu1 := x1.one
  replace M := M.call K
  clear K x1
  go_wp2_with (first
    | ((with_reducible apply W_stV (b := t13) (o := 11) (v := iu)); rfl; rfl; exact hiu1; exact M.r0; exact size40; exact Nat.le_of_ble_eq_true (by kernel_rfl); intro wS K hr3; replace HIU := hid (HIU.out.keptC K M.r0 (frG_nb _ _ _ _ _ _ _ _ _)); rw [show ((frG 2 sb sg vn nilS nilS (ad t) (ad a) wnil).toArray).setIfInBounds 11 (iu) = (frG 2 sb sg vn nilS iu (ad t) (ad a) wnil).toArray from by kernel_rfl] at hr3; replace M := Mem.callPut (L1 := []) M HB13 K hr3; clear K hr3; simp only [List.nil_append] at M)
    | ((with_reducible apply W_loadAll); rfl; exact M.r1; exact Salg.underlying45; rfl; exact size45; simp only [Act.put, List.setIfInBounds_toArray, List.set_cons_zero, List.set_cons_succ]))
  refine (HT.out.nat _).mono ?_
  rintro e w23 ⟨rfl, K⟩
  replace HIU := hid (HIU.out.kept K)
  replace M := M.call K
  clear K
  go_wp2_with (first
    | ((with_reducible apply W_stV (b := t13) (o := 1) (v := .int .u8 0)); rfl; rfl; exact rfl; exact M.r0; exact size5; exact Nat.le_of_ble_eq_true (by kernel_rfl); intro wS K hr3; replace HIU := hid (HIU.out.keptC K M.r0 (frG_nb _ _ _ _ _ _ _ _ _)); rw [show ((frG 2 sb sg vn nilS iu (ad t) (ad a) wnil).toArray).setIfInBounds 1 (.int .u8 0) = (frG 2 sb sg vn nilS iu (ad t) (ad a) wnil).toArray from by kernel_rfl] at hr3; replace M := Mem.callPut (L1 := []) M HB13 K hr3; clear K hr3; simp only [List.nil_append] at M)
    | ((with_reducible apply W_loadCell); rfl; exact M.r0; exact (show (frG 2 sb sg vn nilS iu (ad t) (ad a) wnil).toArray[1]? = some (.int .u8 0) by kernel_rfl); exact Salg.underlying5; rfl; simp only [Act.put, List.setIfInBounds_toArray, List.set_cons_zero, List.set_cons_succ]))
  have HCS := hid (HC.out.keptK M.kept H13.out)
  have HAS := hid ((AccD.still D).keptC HA.out M.kept H13.out NB13.out (.inr rfl))
  obtain ⟨wz, c1, _⟩ := HCS.out
  have MM := M
  replace M := M.anew []
  refine S_region (by kernel_rfl) ?_
  replace HIU := hid (HIU.out.kept (Kept.refl [] _).drew)
  refine E_stage 0 7 [0, 1, 2, 3, 4, 5, 6] (by kernel_rfl) M.drew ?_
  clear M
  simp only [List.filterMap_cons, List.filterMap_nil, List.getElem?_cons_zero, List.getElem?_cons_succ]
  ((with_reducible apply E_run); rfl; rfl; (intro w M; go_simp; (try go_ints); (try simp only [↓IntWalk.iteOmega]); (try with_reducible rfl)); simp only [Act.put, List.setIfInBounds_toArray, List.set_cons_zero, List.set_cons_succ])
  ((with_reducible apply E_run); rfl; rfl; (intro w M; go_simp; (try go_ints); (try simp only [↓IntWalk.iteOmega]); (try with_reducible rfl)); simp only [Act.put, List.setIfInBounds_toArray, List.set_cons_zero, List.set_cons_succ])
  ((with_reducible apply E_run); rfl; rfl; (intro w M; go_simp; (try go_ints); (try simp only [↓IntWalk.iteOmega]); (try with_reducible rfl)); simp only [Act.put, List.setIfInBounds_toArray, List.set_cons_zero, List.set_cons_succ])
  ((with_reducible apply E_run); rfl; rfl; (intro w M; exact run_loadAll M.r1 rfl Salg.underlying45 rfl size45); simp only [Act.put, List.setIfInBounds_toArray, List.set_cons_zero, List.set_cons_succ])
  refine E_call rfl Salg.func85 (by kernel_rfl) (by kernel_rfl) (args := [.pointer (some ⟨c, 0, none⟩), A8 (ad t)]) rfl ?_
  intro w1 K M
  replace HIU := hid (HIU.out.kept K)
  clear K
  refine (account_D c 119 _ E.vz D dt (ad t) _ (M.kept.row c1 (by simp)) (chN_get _ _ _ _ (by decide)) ((AccD.still D).kept HAS.out M.kept) rfl HDT.out).mono ?_
  rintro e w24 ⟨nvt, bvt, cut, rfl, xHNVt, xHBVt, xHCUt, K⟩
  have HNVt := hid xHNVt
  have HBVt := hid xHBVt
  have HCUt := hid xHCUt
  clear xHNVt xHBVt xHCUt
  replace HIU := hid (HIU.out.kept K)
  replace M := M.call K
  refine ⟨_, rfl, trivial, M, ?_⟩
  clear K
  simp only [Act.put, List.setIfInBounds_toArray, List.set_cons_zero, List.set_cons_succ]
  ((with_reducible apply E_run (v := cut)); rfl; rfl; (intro w M; kernel_rfl); simp only [Act.put, List.setIfInBounds_toArray, List.set_cons_zero, List.set_cons_succ])
  refine E_call rfl Salg.func96 (by kernel_rfl) (by kernel_rfl) (args := [cut]) rfl ?_
  intro w1 K M
  replace HCUt := hid (HCUt.out.kept K)
  replace HIU := hid (HIU.out.kept K)
  clear K
  refine (bytesOf_all cut dt.ds _ HCUt.out).mono ?_
  rintro e w25 ⟨cu2, rfl, xHCU, K⟩
  have HCU := hid xHCU
  clear xHCU
  replace HCUt := hid (HCUt.out.kept K)
  replace HIU := hid (HIU.out.kept K)
  replace M := M.call K
  refine ⟨_, rfl, trivial, M, ?_⟩
  clear K
  simp only [Act.put, List.setIfInBounds_toArray, List.set_cons_zero, List.set_cons_succ]
  refine E_nil ?_
  intro w26 K M
  replace HIU := hid (HIU.out.kept K)
  replace HCU := hid (HCU.out.kept K)
  clear K
  replace M := MM.call M.kept
  clear MM HCS HAS c1 HNVt HBVt HCUt
  have hcu1 := HCU.out.one
  refine S_seg 7 9 (by kernel_rfl) (by decide) ?_
  simp only [List.take_succ_cons, List.take_zero, List.drop_zero, List.drop_succ_cons, Nat.sub_zero, Nat.reduceSub]
  go_wp2_with ((with_reducible apply W_stV (b := t13) (o := 10) (v := cu2)); rfl; rfl; exact hcu1; exact M.r0; exact size40; exact Nat.le_of_ble_eq_true (by kernel_rfl); intro wS K hr3; replace HIU := hid (HIU.out.keptC K M.r0 (frG_nb _ _ _ _ _ _ _ _ _)); replace HCU := hid (HCU.out.keptC K M.r0 (frG_nb _ _ _ _ _ _ _ _ _)); rw [show ((frG 2 sb sg vn nilS iu (ad t) (ad a) wnil).toArray).setIfInBounds 10 (cu2) = (frG 2 sb sg vn cu2 iu (ad t) (ad a) wnil).toArray from by kernel_rfl] at hr3; replace M := Mem.callPut (L1 := []) M HB13 K hr3; clear K hr3; simp only [List.nil_append] at M)
  refine S_done ?_
  go_wp2_with fail
  refine (arg_q fb 60 (fs.setIfInBounds (60 + 4) lg) _ u5 xs 5 _ (M.kept.row hr hf13) h7' ((HP.out.keptC M.kept H13.out NB13.out (by decide)).s) (by omega) hu5 (by omega)).mono ?_
  rintro e w27 ⟨rfl, K⟩
  replace HIU := hid (HIU.out.kept K)
  replace HCU := hid (HCU.out.kept K)
  replace M := M.call K
  clear K
  go_wp2_with fail
  refine (arg_q fb 60 (fs.setIfInBounds (60 + 4) lg) _ u6 xs 6 _ (M.kept.row hr hf13) h7' ((HP.out.keptC M.kept H13.out NB13.out (by decide)).s) (by omega) hu6 (by omega)).mono ?_
  rintro e w28 ⟨rfl, K⟩
  replace HIU := hid (HIU.out.kept K)
  replace HCU := hid (HCU.out.kept K)
  replace M := M.call K
  clear K
  go_wp2_with fail
  have hrow := M.kept.row hr hf13
  refine (wait_any fb 60 7 0 0 (fs.setIfInBounds (60 + 4) lg) _ u5 u6 xs _ hrow h7' ((HP.out.keptC M.kept H13.out NB13.out (by decide)).s) (N5.out.keptC M.kept H13.out NB13.out) (N6.out.keptC M.kept H13.out NB13.out) (by omega) (by omega)).mono ?_
  rintro e w29 ⟨r29, p', r6, r7, rfl, K1, hr29, x1, x2, x3⟩
  have HSV := hid x1
  have HR7 := hid x3
  have hr61 := x2.one
  replace HP := hid ((HP.out.keptC M.kept H13.out NB13.out (by decide)).keptC K1 hrow HNB2.out (by decide))
  replace HLG := hid ((HLG.out.keptC M.kept H13.out NB13.out).keptC K1 hrow HNB2.out)
  replace HSG := hid ((HSG.out.keptC M.kept H13.out NB13.out).keptC K1 hrow HNB2.out)
  replace HVN := hid ((HVN.out.keptC M.kept H13.out NB13.out).keptC K1 hrow HNB2.out)
  replace HIU := hid (HIU.out.keptC K1 hrow HNB2.out)
  replace HCU := hid (HCU.out.keptC K1 hrow HNB2.out)
  replace HC := hid ((HC.out.keptK M.kept H13.out).frame K1 hrow)
  replace HA := hid ((AccD.still D).keptC ((AccD.still D).keptC HA.out M.kept H13.out NB13.out (.inr rfl)) K1 hrow HNB2.out (.inr rfl))
  have HK2 : Hid (Kept [t13, c, fb] w w29) := HK1.out.trans ((M.kept.mono (by intro k hk; simp at hk ⊢; omega)).trans (K1.mono (by simp)))
  have H13' := hid (K1.row M.r0 (by simpa using h13f))
  clear x1 x2 x3 K1 M HK1 hrow hr
  obtain ⟨fs2, hfs2⟩ : ∃ fs2, fs2 = (((fs.setIfInBounds (60 + 4) lg).setIfInBounds (60 + 8) (.slice p' (xs.length - 7) (xs.length - 7))).setIfInBounds (60 + 6) r6).setIfInBounds (60 + 7) r7 := ⟨_, rfl⟩
  rw [← hfs2] at hr29
  have HFS2 := hid hfs2
  clear hfs2
  have hs2 : fs2.size = cap * 60 := by rw [HFS2.out]; simp only [Array.size_setIfInBounds]; exact hz
  have HNB3 := hid (not_bytes_at (tc := 142) (cs := fs2) (i := 60 + 8) (p := p') (n := xs.length - 7) (m := xs.length - 7) (by rw [HFS2.out, Array.getElem?_setIfInBounds_ne (by decide), Array.getElem?_setIfInBounds_ne (by decide), Array.getElem?_setIfInBounds_self_of_lt (by simp; omega)]))
  go_wp2_with ((with_reducible apply W_loadAll); rfl; exact H13'.out; exact Salg.underlying142; rfl; exact (by kernel_rfl); simp only [Act.put, List.setIfInBounds_toArray, List.set_cons_zero, List.set_cons_succ])
  refine (enterY2 c fb cap 2 t a sb fs2 _ E rt sg vn cu2 iu (AccD D) _ HC.out (AccD.still _) hr29 HNB3.out hs2 hcap hc1 hsg1 HVN1.out hcu1 hiu1 (by decide) (fun w => creates_two w) (fun w' K' => clone_D c E _ rt _ [] D w' (HC.out.kept K') ((AccD.still D).kept HA.out K') hD0 hD20 hl0 hl2 (.inl hmd)) (fun w' K' => (move_Z c 0 (ad a) (ad t) E _ rt vn _ D da w' (HC.out.kept K') ((AccD.still D).kept HA.out K') rfl rfl (ad_small ha) (ad_small HT.out.lt) HDA.out hB (Nat.zero_le _) (hV0 ▸ HVN.out.kept K') rfl).mono fun e w'' ⟨r, he, K3⟩ => ⟨r, E.vz, he, HC.out.kept (K'.trans K3), (AccD.still D).kept HA.out (K'.trans K3), K3.mono (by simp)⟩)).mono ?_
  rintro e w30 ⟨r30, fb', cap', cur, a0, a1, a3, a6, vz, rfl, y1, y2, y3, y4, y5, y6, y6b, y6c, y7a, y7b, y7c, y7d, y8, yk⟩
  have Y1 := hid y1
  have Y2 := hid y2
  have Y4 := hid y4
  have Y5 := hid y5
  have Y8 := hid y8
  have YK := hid yk
  have hX : Hard [c, fb] w29 := by
    obtain ⟨wz, c1, _⟩ := HC.out
    intro x hx
    simp only [List.mem_cons, List.mem_singleton, List.not_mem_nil, or_false] at hx
    rcases hx with rfl | rfl
    · exact ⟨_, 119, c1, .inl rfl, chy_nb _ _ _ _⟩
    · exact ⟨_, 142, hr29, .inr rfl, HNB3.out⟩
  have HHX := hid hX
  clear y1 y2 y4 y5 y8 yk HC HA hX
  go_wp2_with fail
  go_end0
  have e2 : ∀ k, k ≠ 60 + 4 → k ≠ 60 + 6 → k ≠ 60 + 7 → k ≠ 60 + 8 → fs2[k]? = fs[k]? := by
    intro k k4 k6 k7 k8
    rw [HFS2.out, Array.getElem?_setIfInBounds_ne (by omega), Array.getElem?_setIfInBounds_ne (by omega), Array.getElem?_setIfInBounds_ne (by omega), Array.getElem?_setIfInBounds_ne (by omega)]
  have hX := HHX.out
  have hnl : xs.length - 7 = 0 := by omega
  have hK30 : Kept [c, fb] w w30 := by
    have := HK2.out
    refine ⟨YK.out.os.trans this.os, YK.out.tape.trans this.tape, YK.out.output.trans this.output, Nat.le_trans this.size YK.out.size, fun k hk hx => ?_⟩
    rw [YK.out.block k (Nat.lt_of_lt_of_le hk this.size) hx]
    refine this.block k hk ?_
    simp at hx ⊢
    refine ⟨?_, hx⟩
    rintro rfl
    have := h13w
    omega
  have HSV0 : RowV w30 89 (.slice p' (xs.length - 7) (xs.length - 7)) [] := by
    have := HSV.out.keptN YK.out hX
    rw [hnl, List.take_zero] at this
    rw [hnl]
    exact this
  refine ⟨_, fb', cap', cur, pv, lg, .slice p' (xs.length - 7) (xs.length - 7), r7, cu2, sg, vn, iu, a0, a1, a3, a6, vz, rfl, Y1.out, Y2.out, y3.imp id (fun h => Nat.le_trans HK2.out.size h), ?_, ?_, ?_, ?_, ?_, ?_, ⟨r6, ?_, hr61⟩, ⟨HP.out.p.keptN YK.out hX, HLG.out.keptN YK.out hX, HSV0, ⟨rfl, fun k v n i1 => by simp at i1⟩⟩, HR7.out.keptN YK.out hX, Y5.out, HSG.out.keptN YK.out hX, HVN.out.keptN YK.out hX, HCU.out.keptN YK.out hX, by simpa [cutB] using HIU.out.keptN YK.out hX, y6, y6b, y6c, ⟨y7a, y7b, y7c, y7d⟩, Y8.out, hK30⟩
  · intro k k60 k3 k4 k6 k7 k8 k9
    rw [Y4.out k k60, e2 k k4 k6 k7 k8]
    exact HX2.out k (by omega) (by omega) (by omega) (by omega)
  · rw [Y4.out (60 + 3) (by decide), e2 (60 + 3) (by decide) (by decide) (by decide) (by decide)]
    exact h3
  · rw [Y4.out (60 + 4) (by decide), HFS2.out, Array.getElem?_setIfInBounds_ne (by decide), Array.getElem?_setIfInBounds_ne (by decide), Array.getElem?_setIfInBounds_ne (by decide), Array.getElem?_setIfInBounds_self_of_lt z4]
  · rw [Y4.out (60 + 7) (by decide), HFS2.out, Array.getElem?_setIfInBounds_self_of_lt (by simp; omega)]
  · rw [Y4.out (60 + 8) (by decide), HFS2.out, Array.getElem?_setIfInBounds_ne (by decide), Array.getElem?_setIfInBounds_ne (by decide), Array.getElem?_setIfInBounds_self_of_lt (by simp; omega)]
  · rw [Y4.out (60 + 9) (by decide), e2 (60 + 9) (by decide) (by decide) (by decide) (by decide)]
    exact hmv
  · rw [Y4.out (60 + 6) (by decide), HFS2.out, Array.getElem?_setIfInBounds_ne (by decide), Array.getElem?_setIfInBounds_self_of_lt (by simp; omega)]

set_option maxHeartbeats 4000000 in
set_option maxRecDepth 100000 in
theorem enterCall2_delegatecall (c fb cap m G A t a b V : Nat) (sb : Bool) (E : XEnv) (fs0 : Array Value) (cv vv rt : Value) (la : List (List Nat)) (D : List AD) (da dt d2 : AD) (w : World) (hC : ChY w c E (.slice (some ⟨fb, 0, none⟩) 2 cap) rt la) (hA : AccD D w E.vz) (hF : FrameQ w fb 60 fs0 m G [0, 0, 0, 0, t, A] nilS) (hf : FrB fs0 60 sb cv) (hse : fs0.extract (60 + 12) (60 + 12 + 20) = ((ad a).map n8).toArray) (hca : fs0.extract (60 + 32) (60 + 32 + 20) = ((ad b).map n8).toArray) (h5v : fs0[60 + 5]? = some vv) (hvv : vv.oneCell' = true) (ha : a < 256) (hT : TargetOK t) (hda : D.find? (fun x => x.adr == ad a) = some da) (hdt : D.find? (fun x => x.adr == ad t) = some dt) (hB : da.B < 256 ^ 100) (hVB : V ≤ da.B) (hl0 : 0 < (adWith la (ad t)).length) (hl1 : la.length ≤ 15) (hl2 : (adWith la (ad t)).length ≤ 20) (hD0 : 0 < D.length) (hD20 : D.length ≤ 20) (hmd : E.md = nilS) (hsz : fs0.size = cap * 60) (hcap : cap ≤ maxLen) (hc1 : 2 ≤ cap) (hm : m ≤ 1000) (hG : G < 1000000) :
    Calls Salg.prog 194 #[.pointer (some ⟨c, 0, none⟩), .pointer (some ⟨fb, 60, none⟩), .int .u8 244] w fun e w' => ∃ (r : Value) (fb' cap' : Nat) (cur : Array Value) (pv gv sv r7 cw sg vn iu a0 a1 a3 a6 vz' : Value), e = .returned r ∧ ChY w' c { E with vz := vz' } (.slice (some ⟨fb', 0, none⟩) 3 cap') nilS (adWith la (ad t)) ∧ w'.heap[fb']? = some (.cells cur 142 (0, 0)) ∧ (fb' = fb ∨ w.heap.size ≤ fb') ∧ (∀ k, k < 120 → k ≠ 60 + 3 → k ≠ 60 + 4 → k ≠ 60 + 6 → k ≠ 60 + 7 → k ≠ 60 + 8 → k ≠ 60 + 9 → cur[k]? = fs0[k]?) ∧ cur[60 + 3]? = some pv ∧ cur[60 + 4]? = some gv ∧ cur[60 + 7]? = some r7 ∧ cur[60 + 8]? = some sv ∧ cur[60 + 9]? = some nilS ∧ (∃ r6 : Value, cur[60 + 6]? = some r6 ∧ r6.oneCell' = true) ∧ PartsV w' pv gv sv [] m (G - (min A (G - G / 64))) [] ∧ NumV w' r7 0 ∧ (∀ k, k < 60 → cur[120 + k]? = (frG 3 sb sg vv cw iu (ad a) (ad b) (wrow5 a0 a1 a3 a6))[k]?) ∧ NumV w' sg (min A (G - G / 64)) ∧ True ∧ NatV w' cw dt.ds ∧ NatV w' iu [] ∧ cur.size = cap' * 60 ∧ cap' ≤ maxLen ∧ 3 ≤ cap' ∧ (a0.oneCell' = true ∧ a1.oneCell' = true ∧ a3.oneCell' = true ∧ a6.oneCell' = true) ∧ AccD D w' vz' ∧ Kept [c, fb] w w' := by
  have M := Mem.start w []
  obtain ⟨fs, pv, gv, sv, xs, hr, h0, h2, h3, h4, h5, h6, h7, h8, h9, hmv⟩ := hF
  have hxl : xs.length = 6 := by have := h9.1; simpa using this
  obtain ⟨u0, hu0⟩ : ∃ u, xs[xs.length - 1 - 0]? = some u := ⟨_, List.getElem?_eq_getElem (by omega)⟩
  obtain ⟨u1, hu1⟩ : ∃ u, xs[xs.length - 1 - 1]? = some u := ⟨_, List.getElem?_eq_getElem (by omega)⟩
  obtain ⟨u2, hu2⟩ : ∃ u, xs[xs.length - 1 - 2]? = some u := ⟨_, List.getElem?_eq_getElem (by omega)⟩
  obtain ⟨u3, hu3⟩ : ∃ u, xs[xs.length - 1 - 3]? = some u := ⟨_, List.getElem?_eq_getElem (by omega)⟩
  obtain ⟨u4, hu4⟩ : ∃ u, xs[xs.length - 1 - 4]? = some u := ⟨_, List.getElem?_eq_getElem (by omega)⟩
  obtain ⟨u5, hu5⟩ : ∃ u, xs[xs.length - 1 - 5]? = some u := ⟨_, List.getElem?_eq_getElem (by omega)⟩
  obtain ⟨p, cp, rfl⟩ : ∃ p cap, sv = .slice p xs.length cap := by
    rcases h8 with ⟨rfl, rfl⟩ | ⟨g, cap, cur, rfl, _⟩
    · exact ⟨none, 0, rfl⟩
    · exact ⟨_, _, rfl⟩
  have HNB := hid (not_bytes_at (tc := 142) h7)
  have HP : Hid (PartsV w pv gv (.slice p xs.length cp) xs m G [0, 0, 0, 0, t, A]) := ⟨h4, h6, h8, h9⟩
  have N0 : Hid (NumV w u0 A) := h9.2 _ _ _ hu0 (by rw [hxl]; rfl)
  have N1 : Hid (NumV w u1 t) := h9.2 _ _ _ hu1 (by rw [hxl]; rfl)
  have N2 : Hid (NumV w u2 0) := h9.2 _ _ _ hu2 (by rw [hxl]; rfl)
  have N3 : Hid (NumV w u3 0) := h9.2 _ _ _ hu3 (by rw [hxl]; rfl)
  have N4 : Hid (NumV w u4 0) := h9.2 _ _ _ hu4 (by rw [hxl]; rfl)
  have N5 : Hid (NumV w u5 0) := h9.2 _ _ _ hu5 (by rw [hxl]; rfl)
  have hz : fs.size = cap * 60 := h0.trans hsz
  have g2 := (h2 (60 + 2) (by decide) (by decide) (by decide) (by decide)).trans hf.f2
  have HSE : Hid (fs.extract (60 + 12) (60 + 12 + 20) = ((ad a).map n8).toArray) := by
    have e := ext_same (a := 60 + 12) (n := 20) h0 fun k k1 k2 => h2 k (by omega) (by omega) (by omega) (by omega)
    exact e.trans hse
  have HCA : Hid (fs.extract (60 + 32) (60 + 32 + 20) = ((ad b).map n8).toArray) := by
    have e := ext_same (a := 60 + 32) (n := 20) h0 fun k k1 k2 => h2 k (by omega) (by omega) (by omega) (by omega)
    exact e.trans hca
  have g5 := (h2 (60 + 5) (by decide) (by decide) (by decide) (by decide)).trans h5v
  have HX2 := hid h2
  have HC := hid hC
  have HA := hid hA
  have HT := hid hT
  have HDA := hid hda
  have HDT := hid hdt
  have hfl := lt_of_row hr
  have hfc : fb ∉ [c] := by
    obtain ⟨wz, y, _⟩ := hC
    exact row_ne y hr (by intro h; injection h with _ h _; exact absurd h (by decide))
  have hcl : c < w.heap.size := by
    obtain ⟨_, y, _⟩ := hC
    exact lt_of_row y
  have z4 : 60 + 4 < fs.size := by omega
  have hdc : decide (cmpI da.B 0 < 0) = false := by
    unfold cmpI
    rw [if_neg (by omega)]
    split <;> rfl
  have HDC := hid hdc
  clear hdc
  clear h2 h4 h6 h8 h9 hC hA hf hse h0 hT hda hdt hca h5v 
  go_enter Salg.func194, Salg.ntmps194
  go_wp2_with fail
  refine (arity_delegatecall _).mono ?_
  rintro e w1 ⟨rfl, hw⟩
  replace hw := hw.symm
  subst hw
  go_wp2_with fail
  refine (arg_q fb 60 fs _ u0 xs 0 _ (M.kept.row hr (by simp)) h7 (HP.out.s.kept M.kept) (by omega) hu0 (by omega)).mono ?_
  rintro e w2 ⟨rfl, K⟩
  replace M := M.call K
  clear K
  go_wp2_with fail
  refine (arg_q fb 60 fs _ u1 xs 1 _ (M.kept.row hr (by simp)) h7 (HP.out.s.kept M.kept) (by omega) hu1 (by omega)).mono ?_
  rintro e w3 ⟨rfl, K⟩
  replace M := M.call K
  clear K
  go_wp2_with fail
  refine (HT.out.adr u1 _ (N1.out.kept M.kept)).mono ?_
  rintro e w4 ⟨rfl, K⟩
  replace M := M.call K
  clear K
  go_wp2_with (first
    | ((with_reducible apply L_allocA M); exact zero45; clear M; intro t10 w5 ht10 M; simp only [Act.put, List.setIfInBounds_toArray, List.set_cons_zero, List.set_cons_succ])
    | ((with_reducible apply W_storeK (b := t10) (vs := ((ad t).map n8).toArray)); rfl; rfl; exact M.r0; exact size45; rfl; exact one8 _; intro w6 K1 hr3; replace M := Mem.callPut (L1 := []) M (Or.inr ht10) K1 hr3; clear K1 hr3; simp only [List.nil_append] at M))
  refine S_region (by kernel_rfl) ?_
  refine E_stage 0 4 [0, 1, 2, 3] (by kernel_rfl) M.drew ?_
  clear M
  simp only [List.filterMap_cons, List.filterMap_nil, List.getElem?_cons_zero, List.getElem?_cons_succ]
  ((with_reducible apply E_run); rfl; rfl; (intro w M; go_simp; (try go_ints); (try simp only [↓IntWalk.iteOmega]); (try with_reducible rfl)); simp only [Act.put, List.setIfInBounds_toArray, List.set_cons_zero, List.set_cons_succ])
  ((with_reducible apply E_run); rfl; rfl; (intro w M; go_simp; (try go_ints); (try simp only [↓IntWalk.iteOmega]); (try with_reducible rfl)); simp only [Act.put, List.setIfInBounds_toArray, List.set_cons_zero, List.set_cons_succ])
  ((with_reducible apply E_run); rfl; rfl; (intro w M; go_simp; (try go_ints); (try simp only [↓IntWalk.iteOmega]); (try with_reducible rfl)); simp only [Act.put, List.setIfInBounds_toArray, List.set_cons_zero, List.set_cons_succ])
  ((with_reducible apply E_run); rfl; rfl; (intro w M; exact run_loadAll M.r0 rfl Salg.underlying45 rfl size45); simp only [Act.put, List.setIfInBounds_toArray, List.set_cons_zero, List.set_cons_succ])
  refine E_nil ?_
  intro w7 K M
  clear K
  refine S_seg 4 5 (by kernel_rfl) (by decide) ?_
  simp only [List.take_succ_cons, List.take_zero, List.drop_zero, List.drop_succ_cons, Nat.sub_zero, Nat.reduceSub]
  go_wp2_with fail
  refine (warm_Y c t E _ rt la _ (HC.out.kept M.kept) HT.out.lt (by omega)).mono ?_
  rintro e w8 ⟨r8, rfl, x8, K1⟩
  obtain ⟨wz, c1, _⟩ := HC.out.kept M.kept
  have HO := hid (chy_nb E wz (.slice (some ⟨fb, 0, none⟩) 2 cap) rt)
  replace hr := K1.row (M.kept.row hr (by simp)) hfc
  have h10c : t10 ∉ [c] := by simp; omega
  have H10 := hid (K1.row M.r0 h10c)
  replace HP := hid ((HP.out.kept M.kept).keptC K1 c1 HO.out (by decide))
  replace HA := hid ((AccD.still D).keptC ((AccD.still D).kept HA.out M.kept) K1 c1 HO.out (.inl rfl))
  replace N0 := hid ((N0.out.kept M.kept).keptC K1 c1 HO.out)
  replace N2 := hid ((N2.out.kept M.kept).keptC K1 c1 HO.out)
  replace N3 := hid ((N3.out.kept M.kept).keptC K1 c1 HO.out)
  replace N4 := hid ((N4.out.kept M.kept).keptC K1 c1 HO.out)
  replace N5 := hid ((N5.out.kept M.kept).keptC K1 c1 HO.out)
  have HK : Hid (Kept [c, fb] w w8) := (M.kept.mono (by simp)).trans (K1.mono (by simp))
  replace HC : Hid (ChY w8 c E (.slice (some ⟨fb, 0, none⟩) 2 cap) rt (adWith la (ad t))) := x8
  have h10f : t10 ≠ fb := by omega
  have h10l := lt_of_row H10.out
  clear x8 K1 M c1 HO
  have M : Mem w8 [] [(t10, .cells ((ad t).map n8).toArray 45 (0, 0))] w8 := (Mem.start w8 []).add H10.out (by simp)
  go_wp2_with fail
  refine S_done ?_
  go_wp2_with fail
  refine S_region (by kernel_rfl) ?_
  refine E_float 0 13 [0, 1, 2, 3, 4, 6, 7, 8, 9, 10, 5, 11] 12 13 _ (by kernel_rfl) ⟨⟨_, _, _, _, _, rfl, zero142, rfl⟩⟩ (by simp) M.drew ?_
  clear M
  simp only [List.filterMap_cons, List.filterMap_nil, List.getElem?_cons_zero, List.getElem?_cons_succ]
  ((with_reducible apply E_run); rfl; rfl; (intro w M; go_simp; (try go_ints); (try simp only [↓IntWalk.iteOmega]); (try with_reducible rfl)); simp only [Act.put, List.setIfInBounds_toArray, List.set_cons_zero, List.set_cons_succ])
  ((with_reducible apply E_run); rfl; rfl; (intro w M; go_simp; (try go_ints); (try simp only [↓IntWalk.iteOmega]); (try with_reducible rfl)); simp only [Act.put, List.setIfInBounds_toArray, List.set_cons_zero, List.set_cons_succ])
  ((with_reducible apply E_run); rfl; rfl; (intro w M; go_simp; (try go_ints); (try simp only [↓IntWalk.iteOmega]); (try with_reducible rfl)); simp only [Act.put, List.setIfInBounds_toArray, List.set_cons_zero, List.set_cons_succ])
  ((with_reducible apply E_run); rfl; rfl; (intro w M; exact run_loadCell (M.kept.row hr (by simp)) rfl g2 Salg.underlying4 rfl); simp only [Act.put, List.setIfInBounds_toArray, List.set_cons_zero, List.set_cons_succ])
  ((with_reducible apply E_run); rfl; rfl; (intro w M; go_simp; (try go_ints); (try simp only [↓IntWalk.iteOmega]); (try with_reducible rfl)); simp only [Act.put, List.setIfInBounds_toArray, List.set_cons_zero, List.set_cons_succ])
  ((with_reducible apply E_run); rfl; rfl; (intro w M; exact run_loadAll M.r0 rfl Salg.underlying45 rfl size45); simp only [Act.put, List.setIfInBounds_toArray, List.set_cons_zero, List.set_cons_succ])
  ((with_reducible apply E_run); rfl; rfl; (intro w M; go_simp; (try go_ints); (try simp only [↓IntWalk.iteOmega]); (try with_reducible rfl)); simp only [Act.put, List.setIfInBounds_toArray, List.set_cons_zero, List.set_cons_succ])
  ((with_reducible apply E_run); rfl; rfl; (intro w M; go_simp; (try go_ints); (try simp only [↓IntWalk.iteOmega]); (try with_reducible rfl)); simp only [Act.put, List.setIfInBounds_toArray, List.set_cons_zero, List.set_cons_succ])
  ((with_reducible apply E_run); rfl; rfl; (intro w M; go_simp; (try go_ints); (try simp only [↓IntWalk.iteOmega]); (try with_reducible rfl)); simp only [Act.put, List.setIfInBounds_toArray, List.set_cons_zero, List.set_cons_succ])
  ((with_reducible apply E_run (v := .agg ((ad a).map n8).toArray)); rfl; rfl; (intro w M; exact run_loadX (n := 20) (M.kept.row hr (by simp)) rfl Salg.underlying45 rfl size45 (by omega) HSE.out); simp only [Act.put, List.setIfInBounds_toArray, List.set_cons_zero, List.set_cons_succ])
  refine E_call rfl Salg.func158 (by kernel_rfl) (by kernel_rfl) (args := [(.slice none 0 0)]) rfl ?_
  intro w1 K M
  clear K
  refine (norm_num (.slice none 0 0) 0 _ (nil_num _)).mono ?_
  rintro e w9 ⟨vn, rfl, xHVN, K⟩
  have HVN := hid xHVN
  clear xHVN
  replace M := M.call K
  refine ⟨_, rfl, K.mono (by simp), M, ?_⟩
  clear K
  simp only [Act.put, List.setIfInBounds_toArray, List.set_cons_zero, List.set_cons_succ]
  ((with_reducible apply E_run (v := .agg (frG 2 sb nilS vn nilS nilS (ad t) (ad a) wnil).toArray)); rfl; rfl; (intro w M; obtain ⟨p0, q0, s0, e0⟩ := HVN.out.slice; subst e0; kernel_rfl); simp only [Act.put, List.setIfInBounds_toArray, List.set_cons_zero, List.set_cons_succ])
  refine E_nil ?_
  intro w10 K1 M
  replace HVN := hid (HVN.out.kept K1)
  clear K1
  intro t13 w11 K1 ht13 M
  replace HVN := hid (HVN.out.kept K1)
  clear K1
  simp only [Act.put, List.setIfInBounds_toArray, List.set_cons_zero, List.set_cons_succ]
  refine S_seg 13 14 (by kernel_rfl) (by decide) ?_
  simp only [List.take_succ_cons, List.take_zero, List.drop_zero, List.drop_succ_cons, Nat.sub_zero, Nat.reduceSub]
  have HVN1 := hid HVN.out.one
  have HB13 : t13 ∈ ([] : List Nat) ∨ w8.heap.size ≤ t13 := Or.inr ht13
  go_wp2_with ((with_reducible apply W_storeK (b := t13) (vs := (frG 2 sb nilS vn nilS nilS (ad t) (ad a) wnil).toArray)); rfl; rfl; exact M.r0; exact size142; rfl; exact frG_oneN rfl HVN1.out rfl rfl; intro w12 K1 hr3; replace HVN := hid (HVN.out.keptC K1 M.r0 (not_bytes_at (i := 3) (p := none) (n := 0) (m := 0) (by kernel_rfl))); replace M := Mem.callPut (L1 := []) M HB13 K1 hr3; clear K1 hr3; simp only [List.nil_append] at M)
  refine S_done ?_
  go_wp2_with (first
    | ((with_reducible apply W_stV (b := t13) (o := 0) (v := .int .u8 3)); rfl; rfl; exact rfl; exact M.r0; exact size5; exact Nat.le_of_ble_eq_true (by kernel_rfl); intro wS K hr3; replace HVN := hid (HVN.out.keptC K M.r0 (frG_nb _ _ _ _ _ _ _ _ _)); rw [show ((frG 2 sb nilS vn nilS nilS (ad t) (ad a) wnil).toArray).setIfInBounds 0 (.int .u8 3) = (frG 3 sb nilS vn nilS nilS (ad t) (ad a) wnil).toArray from by kernel_rfl] at hr3; replace M := Mem.callPut (L1 := []) M HB13 K hr3; clear K hr3; simp only [List.nil_append] at M)
    | ((with_reducible apply W_loadCell); rfl; exact M.kept.row hr (by simp); exact g5; exact Salg.underlying89; rfl; simp only [Act.put, List.setIfInBounds_toArray, List.set_cons_zero, List.set_cons_succ])
    | ((with_reducible apply W_stV (b := t13) (o := 5) (v := vv)); rfl; rfl; exact hvv; exact M.r0; exact size89; exact Nat.le_of_ble_eq_true (by kernel_rfl); intro wS K hr3; replace HVN := hid (HVN.out.keptC K M.r0 (frG_nb _ _ _ _ _ _ _ _ _)); rw [show ((frG 3 sb nilS vn nilS nilS (ad t) (ad a) wnil).toArray).setIfInBounds 5 (vv) = (frG 3 sb nilS vv nilS nilS (ad t) (ad a) wnil).toArray from by kernel_rfl] at hr3; replace M := Mem.callPut (L1 := []) M HB13 K hr3; clear K hr3; simp only [List.nil_append] at M)
    | ((with_reducible apply W_loadX (o := 60 + 12) (n := 20) (vs := ((ad a).map n8).toArray)); rfl; exact M.kept.row hr (by simp); exact Salg.underlying45; rfl; exact size45; omega; exact HSE.out; simp only [Act.put, List.setIfInBounds_toArray, List.set_cons_zero, List.set_cons_succ])
    | ((with_reducible apply W_stP (b := t13) (o := 12) (n := 20) (v := .agg ((ad a).map n8).toArray) (rs := (frG 3 sb nilS vv nilS nilS (ad a) (ad a) wnil).toArray)); rfl; rfl; exact M.r0; exact size45; rfl; exact one8 _; exact Nat.le_of_ble_eq_true (by kernel_rfl); kernel_rfl; intro wS K hr3; replace HVN := hid (HVN.out.keptC K M.r0 (frG_nb _ _ _ _ _ _ _ _ _)); replace M := Mem.callPut (L1 := []) M HB13 K hr3; clear K hr3; simp only [List.nil_append] at M)
    | ((with_reducible apply W_loadX (o := 60 + 32) (n := 20) (vs := ((ad b).map n8).toArray)); rfl; exact M.kept.row hr (by simp); exact Salg.underlying45; rfl; exact size45; omega; exact HCA.out; simp only [Act.put, List.setIfInBounds_toArray, List.set_cons_zero, List.set_cons_succ])
    | ((with_reducible apply W_stP (b := t13) (o := 32) (n := 20) (v := .agg ((ad b).map n8).toArray) (rs := (frG 3 sb nilS vv nilS nilS (ad a) (ad b) wnil).toArray)); rfl; rfl; exact M.r0; exact size45; rfl; exact one8 _; exact Nat.le_of_ble_eq_true (by kernel_rfl); kernel_rfl; intro wS K hr3; replace HVN := hid (HVN.out.keptC K M.r0 (frG_nb _ _ _ _ _ _ _ _ _)); replace M := Mem.callPut (L1 := []) M HB13 K hr3; clear K hr3; simp only [List.nil_append] at M)
    | ((with_reducible apply W_loadCell); rfl; exact M.kept.row hr (by simp); exact h5; exact Salg.underlying89; rfl; simp only [Act.put, List.setIfInBounds_toArray, List.set_cons_zero, List.set_cons_succ]))
  refine (sentGas_any gv u0 G A _ (HP.out.g.kept M.kept) (N0.out.kept M.kept) hG).mono ?_
  rintro e w13 ⟨sg, rfl, xHSG, K⟩
  have HSG := hid xHSG
  replace HVN := hid (HVN.out.kept K)
  replace M := M.call K
  clear K xHSG
  go_wp2_with ((with_reducible apply W_loadCell); rfl; exact M.kept.row hr (by simp); exact h5; exact Salg.underlying89; rfl; simp only [Act.put, List.setIfInBounds_toArray, List.set_cons_zero, List.set_cons_succ])
  refine (less_any gv sg G _ _ (HP.out.g.kept M.kept) HSG.out (by omega) (by omega)).mono ?_
  rintro e w14 ⟨lg, rfl, xHLG, K⟩
  have HLG := hid xHLG
  replace HSG := hid (HSG.out.kept K)
  replace HVN := hid (HVN.out.kept K)
  replace M := M.call K
  clear K xHLG
  have hrow := M.kept.row hr (by simp)
  have h13f : t13 ≠ fb := by have := lt_of_row hr; omega
  have h13w : w.heap.size ≤ t13 := Nat.le_trans HK.out.size ht13
  have hsg1 := HSG.out.one
  go_wp2_with (first
    | ((with_reducible apply W_stV (b := fb) (o := 60 + 4) (v := lg)); rfl; rfl; exact HLG.out.one; exact hrow; exact size89; exact z4; intro w15a K1 hr15)
    | ((with_reducible apply W_stV (b := t13) (o := 4) (v := sg)); rfl; rfl; exact hsg1; exact K1.row M.r0 (by simpa using h13f); exact size89; exact Nat.le_of_ble_eq_true (by kernel_rfl); intro w15 K2 hr16; rw [show ((frG 3 sb nilS vv nilS nilS (ad a) (ad b) wnil).toArray).setIfInBounds 4 sg = (frG 3 sb sg vv nilS nilS (ad a) (ad b) wnil).toArray from by kernel_rfl] at hr16))
  have NB4 := hid (frG_nb 3 sb nilS vv nilS nilS (ad a) (ad b) wnil)
  have h13a := K1.row M.r0 (by simpa using h13f)
  have HNB2 := hid (not_bytes_at (tc := 142) (cs := fs.setIfInBounds (60 + 4) lg) (i := 60 + 8) ((Array.getElem?_setIfInBounds_ne (by decide)).trans h7))
  replace HP := hid (((HP.out.kept M.kept).keptC K1 hrow HNB.out (by decide)).keptC K2 h13a NB4.out (by decide))
  replace HA := hid ((AccD.still D).keptC ((AccD.still D).keptC ((AccD.still D).kept HA.out M.kept) K1 hrow HNB.out (.inr rfl)) K2 h13a NB4.out (.inr rfl))
  replace N2 := hid (((N2.out.kept M.kept).keptC K1 hrow HNB.out).keptC K2 h13a NB4.out)
  replace N3 := hid (((N3.out.kept M.kept).keptC K1 hrow HNB.out).keptC K2 h13a NB4.out)
  replace N4 := hid (((N4.out.kept M.kept).keptC K1 hrow HNB.out).keptC K2 h13a NB4.out)
  replace N5 := hid (((N5.out.kept M.kept).keptC K1 hrow HNB.out).keptC K2 h13a NB4.out)
  replace HSG := hid ((HSG.out.keptC K1 hrow HNB.out).keptC K2 h13a NB4.out)
  replace HVN := hid ((HVN.out.keptC K1 hrow HNB.out).keptC K2 h13a NB4.out)
  replace HLG := hid ((HLG.out.keptC K1 hrow HNB.out).keptC K2 h13a NB4.out)
  replace HC := hid (((HC.out.kept M.kept).frame K1 hrow).frame K2 h13a)
  have HK1 : Hid (Kept [t13, c, fb] w w15) := (HK.out.mono (by intro k hk; simp at hk ⊢; omega)).trans ((M.kept.mono (by simp)).trans ((K1.mono (by simp)).trans (K2.mono (by simp))))
  replace H10 := hid (K2.row (K1.row M.r1 (by simpa using h10f)) (by simpa using fun h => M.ne01 h.symm))
  have H13 := hid hr16
  have HB13 : t13 ∈ [t13] ∨ w15.heap.size ≤ t13 := Or.inl (by simp)
  have hne : t13 ≠ t10 := M.ne01
  have NB13 := hid (frG_nb 3 sb sg vv nilS nilS (ad a) (ad b) wnil)
  have hf13 : fb ∉ [t13] := by simp; omega
  replace hr := K2.row hr15 hf13
  clear K1 K2 M hrow h13a NB4 HK hr15 hr16
  have M : Mem w15 [t13] [(t13, .cells (frG 3 sb sg vv nilS nilS (ad a) (ad b) wnil).toArray 142 (0, 0)), (t10, .cells ((ad t).map n8).toArray 45 (0, 0))] w15 := ((Mem.start w15 [t13]).add H10.out (by simp)).add H13.out (by simpa using hne)
  have h7' : (fs.setIfInBounds (60 + 4) lg)[60 + 8]? = some (.slice p xs.length cp) := (Array.getElem?_setIfInBounds_ne (by decide)).trans h7
  have ha' : (fs.setIfInBounds (60 + 4) lg)[60 + 9]? = some nilS := (Array.getElem?_setIfInBounds_ne (by decide)).trans hmv
  have HSE2 : Hid ((fs.setIfInBounds (60 + 4) lg).extract (60 + 12) (60 + 12 + 20) = ((ad a).map n8).toArray) := by
    have e := ext_same (fs := fs.setIfInBounds (60 + 4) lg) (fs0 := fs) (a := 60 + 12) (n := 20) (by simp) fun k k1 k2 => Array.getElem?_setIfInBounds_ne (by omega)
    exact e.trans HSE.out
  refine (isZero_lit (.slice none 0 0) 0 true (by simp) _ (nil_num _)).mono ?_
  rintro e w16 ⟨rfl, K⟩
  replace M := M.call K
  clear K
  go_wp2_with fail
  have HCS := hid (HC.out.keptK M.kept H13.out)
  have HAS := hid ((AccD.still D).keptC HA.out M.kept H13.out NB13.out (.inr rfl))
  obtain ⟨wz, c1, _⟩ := HCS.out
  have MM := M
  replace M := M.anew []
  refine S_region (by kernel_rfl) ?_
  refine E_stage 0 21 [0, 1, 2, 3, 4, 5, 6, 7, 8, 9, 10, 11, 12, 13, 14, 17, 15, 16, 18, 19, 20] (by kernel_rfl) M.drew ?_
  clear M
  simp only [List.filterMap_cons, List.filterMap_nil, List.getElem?_cons_zero, List.getElem?_cons_succ]
  ((with_reducible apply E_run); rfl; rfl; (intro w M; go_simp; (try go_ints); (try simp only [↓IntWalk.iteOmega]); (try with_reducible rfl)); simp only [Act.put, List.setIfInBounds_toArray, List.set_cons_zero, List.set_cons_succ])
  ((with_reducible apply E_run); rfl; rfl; (intro w M; go_simp; (try go_ints); (try simp only [↓IntWalk.iteOmega]); (try with_reducible rfl)); simp only [Act.put, List.setIfInBounds_toArray, List.set_cons_zero, List.set_cons_succ])
  ((with_reducible apply E_run); rfl; rfl; (intro w M; go_simp; (try go_ints); (try simp only [↓IntWalk.iteOmega]); (try with_reducible rfl)); simp only [Act.put, List.setIfInBounds_toArray, List.set_cons_zero, List.set_cons_succ])
  ((with_reducible apply E_run); rfl; rfl; (intro w M; exact run_loadCell (M.kept.row c1 (by simp)) rfl (show (chN E wz (.slice (some ⟨fb, 0, none⟩) 2 cap) rt)[9]? = some (.slice (some ⟨fb, 0, none⟩) 2 cap) by kernel_rfl) Salg.underlying115 rfl); simp only [Act.put, List.setIfInBounds_toArray, List.set_cons_zero, List.set_cons_succ])
  ((with_reducible apply E_run); rfl; rfl; (intro w M; go_simp; (try go_ints); (try simp only [↓IntWalk.iteOmega]); (try with_reducible rfl)); simp only [Act.put, List.setIfInBounds_toArray, List.set_cons_zero, List.set_cons_succ])
  ((with_reducible apply E_run); rfl; rfl; (intro w M; go_simp; (try go_ints); (try simp only [↓IntWalk.iteOmega]); (try with_reducible rfl)); simp only [Act.put, List.setIfInBounds_toArray, List.set_cons_zero, List.set_cons_succ])
  ((with_reducible apply E_run); rfl; rfl; (intro w M; go_simp; (try go_ints); (try simp only [↓IntWalk.iteOmega]); (try with_reducible rfl)); simp only [Act.put, List.setIfInBounds_toArray, List.set_cons_zero, List.set_cons_succ])
  ((with_reducible apply E_run); rfl; rfl; (intro w M; go_simp; (try go_ints); (try simp only [↓IntWalk.iteOmega]); (try with_reducible rfl)); simp only [Act.put, List.setIfInBounds_toArray, List.set_cons_zero, List.set_cons_succ])
  ((with_reducible apply E_run); rfl; rfl; (intro w M; go_simp; (try go_ints); (try simp only [↓IntWalk.iteOmega]); (try with_reducible rfl)); simp only [Act.put, List.setIfInBounds_toArray, List.set_cons_zero, List.set_cons_succ])
  ((with_reducible apply E_run); rfl; rfl; (intro w M; go_simp; (try go_ints); (try simp only [↓IntWalk.iteOmega]); (try with_reducible rfl)); simp only [Act.put, List.setIfInBounds_toArray, List.set_cons_zero, List.set_cons_succ])
  ((with_reducible apply E_run); rfl; rfl; (intro w M; go_simp; (try go_ints); (try simp only [↓IntWalk.iteOmega]); (try with_reducible rfl)); simp only [Act.put, List.setIfInBounds_toArray, List.set_cons_zero, List.set_cons_succ])
  ((with_reducible apply E_run); rfl; rfl; (intro w M; go_simp; (try go_ints); (try simp only [↓IntWalk.iteOmega]); (try with_reducible rfl)); simp only [Act.put, List.setIfInBounds_toArray, List.set_cons_zero, List.set_cons_succ])
  ((with_reducible apply E_run); rfl; rfl; (intro w M; go_simp; (try go_ints); (try simp only [↓IntWalk.iteOmega]); (try with_reducible rfl)); simp only [Act.put, List.setIfInBounds_toArray, List.set_cons_zero, List.set_cons_succ])
  ((with_reducible apply E_run); rfl; rfl; (intro w M; go_simp; (try go_ints); (try simp only [↓IntWalk.iteOmega]); (try with_reducible rfl)); simp only [Act.put, List.setIfInBounds_toArray, List.set_cons_zero, List.set_cons_succ])
  ((with_reducible apply E_run (v := .agg ((ad a).map n8).toArray)); rfl; rfl; (intro w M; exact run_loadX (n := 20) (M.kept.row (MM.kept.row hr hf13) (by simp)) rfl Salg.underlying45 rfl size45 (by simp; omega) HSE2.out); simp only [Act.put, List.setIfInBounds_toArray, List.set_cons_zero, List.set_cons_succ])
  ((with_reducible apply E_run); rfl; rfl; (intro w M; go_simp; (try go_ints); (try simp only [↓IntWalk.iteOmega]); (try with_reducible rfl)); simp only [Act.put, List.setIfInBounds_toArray, List.set_cons_zero, List.set_cons_succ])
  refine E_call rfl Salg.func85 (by kernel_rfl) (by kernel_rfl) (args := [.pointer (some ⟨c, 0, none⟩), A8 (ad a)]) rfl ?_
  intro w1 K M
  clear K
  refine (account_D c 119 _ E.vz D da (ad a) _ (M.kept.row c1 (by simp)) (chN_get _ _ _ _ (by decide)) ((AccD.still D).kept HAS.out M.kept) rfl HDA.out).mono ?_
  rintro e w17 ⟨nva, bva, cua, rfl, xHNVa, xHB0, xHCUa, K⟩
  have HNVa := hid xHNVa
  have HB0 := hid xHB0
  have HCUa := hid xHCUa
  clear xHNVa xHB0 xHCUa
  replace M := M.call K
  refine ⟨_, rfl, trivial, M, ?_⟩
  clear K
  simp only [Act.put, List.setIfInBounds_toArray, List.set_cons_zero, List.set_cons_succ]
  ((with_reducible apply E_run (v := bva)); rfl; rfl; (intro w M; kernel_rfl); simp only [Act.put, List.setIfInBounds_toArray, List.set_cons_zero, List.set_cons_succ])
  refine E_call rfl Salg.func72 (by kernel_rfl) (by kernel_rfl) (args := [bva, (.slice none 0 0)]) rfl ?_
  intro w1 K M
  replace HB0 := hid (HB0.out.kept K)
  clear K
  refine (cmp_num bva (.slice none 0 0) da.B 0 _ HB0.out (nil_num _)).mono ?_
  rintro e w18 ⟨rfl, K⟩
  replace HB0 := hid (HB0.out.kept K)
  replace M := M.call K
  refine ⟨_, rfl, trivial, M, ?_⟩
  clear K
  simp only [Act.put, List.setIfInBounds_toArray, List.set_cons_zero, List.set_cons_succ]
  ((with_reducible apply E_run (v := .bool (decide (cmpI da.B 0 < 0)))); rfl; rfl; (intro w M; go_simp; (try go_ints); (try with_reducible rfl)); simp only [Act.put, List.setIfInBounds_toArray, List.set_cons_zero, List.set_cons_succ])
  rw [HDC.out]
  ((with_reducible apply E_run); rfl; rfl; (intro w M; go_simp; (try go_ints); (try simp only [↓IntWalk.iteOmega]); (try with_reducible rfl)); simp only [Act.put, List.setIfInBounds_toArray, List.set_cons_zero, List.set_cons_succ])
  refine E_nil ?_
  intro w19 K M
  clear K
  refine S_done ?_
  replace M := MM.call M.kept
  clear MM HB0  c1 HCS HAS HNVa HCUa
  go_wp2_with fail
  refine (arg_q fb 60 (fs.setIfInBounds (60 + 4) lg) _ u2 xs 2 _ (M.kept.row hr hf13) h7' ((HP.out.keptC M.kept H13.out NB13.out (by decide)).s) (by omega) hu2 (by omega)).mono ?_
  rintro e w20 ⟨rfl, K⟩
  replace M := M.call K
  clear K
  go_wp2_with fail
  refine (arg_q fb 60 (fs.setIfInBounds (60 + 4) lg) _ u3 xs 3 _ (M.kept.row hr hf13) h7' ((HP.out.keptC M.kept H13.out NB13.out (by decide)).s) (by omega) hu3 (by omega)).mono ?_
  rintro e w21 ⟨rfl, K⟩
  replace M := M.call K
  clear K
  go_wp2_with fail
  refine (read_any fb 60 (fs.setIfInBounds (60 + 4) lg) nilS u2 u3 [] 0 0 _ (M.kept.row hr hf13) ha' (NatV.nil _) (N2.out.keptC M.kept H13.out NB13.out) (N3.out.keptC M.kept H13.out NB13.out) (by decide) (by decide)).mono ?_
  rintro e w22 ⟨iu, rfl, x1, _, K⟩
  have HIU := hid x1
  have hiu1 := x1.one
  replace M := M.call K
  clear K x1
  go_wp2_with (first
    | ((with_reducible apply W_stV (b := t13) (o := 11) (v := iu)); rfl; rfl; exact hiu1; exact M.r0; exact size40; exact Nat.le_of_ble_eq_true (by kernel_rfl); intro wS K hr3; replace HIU := hid (HIU.out.keptC K M.r0 (frG_nb _ _ _ _ _ _ _ _ _)); rw [show ((frG 3 sb sg vv nilS nilS (ad a) (ad b) wnil).toArray).setIfInBounds 11 (iu) = (frG 3 sb sg vv nilS iu (ad a) (ad b) wnil).toArray from by kernel_rfl] at hr3; replace M := Mem.callPut (L1 := []) M HB13 K hr3; clear K hr3; simp only [List.nil_append] at M)
    | ((with_reducible apply W_loadAll); rfl; exact M.r1; exact Salg.underlying45; rfl; exact size45; simp only [Act.put, List.setIfInBounds_toArray, List.set_cons_zero, List.set_cons_succ]))
  refine (HT.out.nat _).mono ?_
  rintro e w23 ⟨rfl, K⟩
  replace HIU := hid (HIU.out.kept K)
  replace M := M.call K
  clear K
  go_wp2_with (first
    | ((with_reducible apply W_stV (b := t13) (o := 1) (v := .int .u8 0)); rfl; rfl; exact rfl; exact M.r0; exact size5; exact Nat.le_of_ble_eq_true (by kernel_rfl); intro wS K hr3; replace HIU := hid (HIU.out.keptC K M.r0 (frG_nb _ _ _ _ _ _ _ _ _)); rw [show ((frG 3 sb sg vv nilS iu (ad a) (ad b) wnil).toArray).setIfInBounds 1 (.int .u8 0) = (frG 3 sb sg vv nilS iu (ad a) (ad b) wnil).toArray from by kernel_rfl] at hr3; replace M := Mem.callPut (L1 := []) M HB13 K hr3; clear K hr3; simp only [List.nil_append] at M)
    | ((with_reducible apply W_loadCell); rfl; exact M.r0; exact (show (frG 3 sb sg vv nilS iu (ad a) (ad b) wnil).toArray[1]? = some (.int .u8 0) by kernel_rfl); exact Salg.underlying5; rfl; simp only [Act.put, List.setIfInBounds_toArray, List.set_cons_zero, List.set_cons_succ]))
  have HCS := hid (HC.out.keptK M.kept H13.out)
  have HAS := hid ((AccD.still D).keptC HA.out M.kept H13.out NB13.out (.inr rfl))
  obtain ⟨wz, c1, _⟩ := HCS.out
  have MM := M
  replace M := M.anew []
  refine S_region (by kernel_rfl) ?_
  replace HIU := hid (HIU.out.kept (Kept.refl [] _).drew)
  refine E_stage 0 7 [0, 1, 2, 3, 4, 5, 6] (by kernel_rfl) M.drew ?_
  clear M
  simp only [List.filterMap_cons, List.filterMap_nil, List.getElem?_cons_zero, List.getElem?_cons_succ]
  ((with_reducible apply E_run); rfl; rfl; (intro w M; go_simp; (try go_ints); (try simp only [↓IntWalk.iteOmega]); (try with_reducible rfl)); simp only [Act.put, List.setIfInBounds_toArray, List.set_cons_zero, List.set_cons_succ])
  ((with_reducible apply E_run); rfl; rfl; (intro w M; go_simp; (try go_ints); (try simp only [↓IntWalk.iteOmega]); (try with_reducible rfl)); simp only [Act.put, List.setIfInBounds_toArray, List.set_cons_zero, List.set_cons_succ])
  ((with_reducible apply E_run); rfl; rfl; (intro w M; go_simp; (try go_ints); (try simp only [↓IntWalk.iteOmega]); (try with_reducible rfl)); simp only [Act.put, List.setIfInBounds_toArray, List.set_cons_zero, List.set_cons_succ])
  ((with_reducible apply E_run); rfl; rfl; (intro w M; exact run_loadAll M.r1 rfl Salg.underlying45 rfl size45); simp only [Act.put, List.setIfInBounds_toArray, List.set_cons_zero, List.set_cons_succ])
  refine E_call rfl Salg.func85 (by kernel_rfl) (by kernel_rfl) (args := [.pointer (some ⟨c, 0, none⟩), A8 (ad t)]) rfl ?_
  intro w1 K M
  replace HIU := hid (HIU.out.kept K)
  clear K
  refine (account_D c 119 _ E.vz D dt (ad t) _ (M.kept.row c1 (by simp)) (chN_get _ _ _ _ (by decide)) ((AccD.still D).kept HAS.out M.kept) rfl HDT.out).mono ?_
  rintro e w24 ⟨nvt, bvt, cut, rfl, xHNVt, xHBVt, xHCUt, K⟩
  have HNVt := hid xHNVt
  have HBVt := hid xHBVt
  have HCUt := hid xHCUt
  clear xHNVt xHBVt xHCUt
  replace HIU := hid (HIU.out.kept K)
  replace M := M.call K
  refine ⟨_, rfl, trivial, M, ?_⟩
  clear K
  simp only [Act.put, List.setIfInBounds_toArray, List.set_cons_zero, List.set_cons_succ]
  ((with_reducible apply E_run (v := cut)); rfl; rfl; (intro w M; kernel_rfl); simp only [Act.put, List.setIfInBounds_toArray, List.set_cons_zero, List.set_cons_succ])
  refine E_call rfl Salg.func96 (by kernel_rfl) (by kernel_rfl) (args := [cut]) rfl ?_
  intro w1 K M
  replace HCUt := hid (HCUt.out.kept K)
  replace HIU := hid (HIU.out.kept K)
  clear K
  refine (bytesOf_all cut dt.ds _ HCUt.out).mono ?_
  rintro e w25 ⟨cu2, rfl, xHCU, K⟩
  have HCU := hid xHCU
  clear xHCU
  replace HCUt := hid (HCUt.out.kept K)
  replace HIU := hid (HIU.out.kept K)
  replace M := M.call K
  refine ⟨_, rfl, trivial, M, ?_⟩
  clear K
  simp only [Act.put, List.setIfInBounds_toArray, List.set_cons_zero, List.set_cons_succ]
  refine E_nil ?_
  intro w26 K M
  replace HIU := hid (HIU.out.kept K)
  replace HCU := hid (HCU.out.kept K)
  clear K
  replace M := MM.call M.kept
  clear MM HCS HAS c1 HNVt HBVt HCUt
  have hcu1 := HCU.out.one
  refine S_seg 7 9 (by kernel_rfl) (by decide) ?_
  simp only [List.take_succ_cons, List.take_zero, List.drop_zero, List.drop_succ_cons, Nat.sub_zero, Nat.reduceSub]
  go_wp2_with ((with_reducible apply W_stV (b := t13) (o := 10) (v := cu2)); rfl; rfl; exact hcu1; exact M.r0; exact size40; exact Nat.le_of_ble_eq_true (by kernel_rfl); intro wS K hr3; replace HIU := hid (HIU.out.keptC K M.r0 (frG_nb _ _ _ _ _ _ _ _ _)); replace HCU := hid (HCU.out.keptC K M.r0 (frG_nb _ _ _ _ _ _ _ _ _)); rw [show ((frG 3 sb sg vv nilS iu (ad a) (ad b) wnil).toArray).setIfInBounds 10 (cu2) = (frG 3 sb sg vv cu2 iu (ad a) (ad b) wnil).toArray from by kernel_rfl] at hr3; replace M := Mem.callPut (L1 := []) M HB13 K hr3; clear K hr3; simp only [List.nil_append] at M)
  refine S_done ?_
  go_wp2_with fail
  refine (arg_q fb 60 (fs.setIfInBounds (60 + 4) lg) _ u4 xs 4 _ (M.kept.row hr hf13) h7' ((HP.out.keptC M.kept H13.out NB13.out (by decide)).s) (by omega) hu4 (by omega)).mono ?_
  rintro e w27 ⟨rfl, K⟩
  replace HIU := hid (HIU.out.kept K)
  replace HCU := hid (HCU.out.kept K)
  replace M := M.call K
  clear K
  go_wp2_with fail
  refine (arg_q fb 60 (fs.setIfInBounds (60 + 4) lg) _ u5 xs 5 _ (M.kept.row hr hf13) h7' ((HP.out.keptC M.kept H13.out NB13.out (by decide)).s) (by omega) hu5 (by omega)).mono ?_
  rintro e w28 ⟨rfl, K⟩
  replace HIU := hid (HIU.out.kept K)
  replace HCU := hid (HCU.out.kept K)
  replace M := M.call K
  clear K
  go_wp2_with fail
  have hrow := M.kept.row hr hf13
  refine (wait_any fb 60 6 0 0 (fs.setIfInBounds (60 + 4) lg) _ u4 u5 xs _ hrow h7' ((HP.out.keptC M.kept H13.out NB13.out (by decide)).s) (N4.out.keptC M.kept H13.out NB13.out) (N5.out.keptC M.kept H13.out NB13.out) (by omega) (by omega)).mono ?_
  rintro e w29 ⟨r29, p', r6, r7, rfl, K1, hr29, x1, x2, x3⟩
  have HSV := hid x1
  have HR7 := hid x3
  have hr61 := x2.one
  replace HP := hid ((HP.out.keptC M.kept H13.out NB13.out (by decide)).keptC K1 hrow HNB2.out (by decide))
  replace HLG := hid ((HLG.out.keptC M.kept H13.out NB13.out).keptC K1 hrow HNB2.out)
  replace HSG := hid ((HSG.out.keptC M.kept H13.out NB13.out).keptC K1 hrow HNB2.out)
  replace HVN := hid ((HVN.out.keptC M.kept H13.out NB13.out).keptC K1 hrow HNB2.out)
  replace HIU := hid (HIU.out.keptC K1 hrow HNB2.out)
  replace HCU := hid (HCU.out.keptC K1 hrow HNB2.out)
  replace HC := hid ((HC.out.keptK M.kept H13.out).frame K1 hrow)
  replace HA := hid ((AccD.still D).keptC ((AccD.still D).keptC HA.out M.kept H13.out NB13.out (.inr rfl)) K1 hrow HNB2.out (.inr rfl))
  have HK2 : Hid (Kept [t13, c, fb] w w29) := HK1.out.trans ((M.kept.mono (by intro k hk; simp at hk ⊢; omega)).trans (K1.mono (by simp)))
  have H13' := hid (K1.row M.r0 (by simpa using h13f))
  clear x1 x2 x3 K1 M HK1 hrow hr
  obtain ⟨fs2, hfs2⟩ : ∃ fs2, fs2 = (((fs.setIfInBounds (60 + 4) lg).setIfInBounds (60 + 8) (.slice p' (xs.length - 6) (xs.length - 6))).setIfInBounds (60 + 6) r6).setIfInBounds (60 + 7) r7 := ⟨_, rfl⟩
  rw [← hfs2] at hr29
  have HFS2 := hid hfs2
  clear hfs2
  have hs2 : fs2.size = cap * 60 := by rw [HFS2.out]; simp only [Array.size_setIfInBounds]; exact hz
  have HNB3 := hid (not_bytes_at (tc := 142) (cs := fs2) (i := 60 + 8) (p := p') (n := xs.length - 6) (m := xs.length - 6) (by rw [HFS2.out, Array.getElem?_setIfInBounds_ne (by decide), Array.getElem?_setIfInBounds_ne (by decide), Array.getElem?_setIfInBounds_self_of_lt (by simp; omega)]))
  go_wp2_with ((with_reducible apply W_loadAll); rfl; exact H13'.out; exact Salg.underlying142; rfl; exact (by kernel_rfl); simp only [Act.put, List.setIfInBounds_toArray, List.set_cons_zero, List.set_cons_succ])
  refine (enterY2d c fb cap 3 a b sb fs2 _ E rt sg vv cu2 iu (AccD D) _ HC.out (AccD.still D) HA.out hr29 HNB3.out hs2 hcap hc1 hsg1 hvv hcu1 hiu1 rfl (fun w => creates_three w) (fun w' K' => clone_D c E _ rt _ [] D w' (HC.out.kept K') ((AccD.still D).kept HA.out K') hD0 hD20 hl0 hl2 (.inl hmd))).mono ?_
  rintro e w30 ⟨r30, fb', cap', cur, a0, a1, a3, a6, vz, rfl, y1, y2, y3, y4, y5, y6, y6b, y6c, y7a, y7b, y7c, y7d, y8, yk⟩
  have Y1 := hid y1
  have Y2 := hid y2
  have Y4 := hid y4
  have Y5 := hid y5
  have Y8 := hid y8
  have YK := hid yk
  have hX : Hard [c, fb] w29 := by
    obtain ⟨wz, c1, _⟩ := HC.out
    intro x hx
    simp only [List.mem_cons, List.mem_singleton, List.not_mem_nil, or_false] at hx
    rcases hx with rfl | rfl
    · exact ⟨_, 119, c1, .inl rfl, chy_nb _ _ _ _⟩
    · exact ⟨_, 142, hr29, .inr rfl, HNB3.out⟩
  have HHX := hid hX
  clear y1 y2 y4 y5 y8 yk HC HA hX
  go_wp2_with fail
  go_end0
  have e2 : ∀ k, k ≠ 60 + 4 → k ≠ 60 + 6 → k ≠ 60 + 7 → k ≠ 60 + 8 → fs2[k]? = fs[k]? := by
    intro k k4 k6 k7 k8
    rw [HFS2.out, Array.getElem?_setIfInBounds_ne (by omega), Array.getElem?_setIfInBounds_ne (by omega), Array.getElem?_setIfInBounds_ne (by omega), Array.getElem?_setIfInBounds_ne (by omega)]
  have hX := HHX.out
  have hnl : xs.length - 6 = 0 := by omega
  have hK30 : Kept [c, fb] w w30 := by
    have := HK2.out
    refine ⟨YK.out.os.trans this.os, YK.out.tape.trans this.tape, YK.out.output.trans this.output, Nat.le_trans this.size YK.out.size, fun k hk hx => ?_⟩
    rw [YK.out.block k (Nat.lt_of_lt_of_le hk this.size) hx]
    refine this.block k hk ?_
    simp at hx ⊢
    refine ⟨?_, hx⟩
    rintro rfl
    have := h13w
    omega
  have HSV0 : RowV w30 89 (.slice p' (xs.length - 6) (xs.length - 6)) [] := by
    have := HSV.out.keptN YK.out hX
    rw [hnl, List.take_zero] at this
    rw [hnl]
    exact this
  refine ⟨_, fb', cap', cur, pv, lg, .slice p' (xs.length - 6) (xs.length - 6), r7, cu2, sg, nilS, iu, a0, a1, a3, a6, vz, rfl, Y1.out, Y2.out, y3.imp id (fun h => Nat.le_trans HK2.out.size h), ?_, ?_, ?_, ?_, ?_, ?_, ⟨r6, ?_, hr61⟩, ⟨HP.out.p.keptN YK.out hX, HLG.out.keptN YK.out hX, HSV0, ⟨rfl, fun k v n i1 => by simp at i1⟩⟩, HR7.out.keptN YK.out hX, Y5.out, HSG.out.keptN YK.out hX, trivial, HCU.out.keptN YK.out hX, by simpa [cutB] using HIU.out.keptN YK.out hX, y6, y6b, y6c, ⟨y7a, y7b, y7c, y7d⟩, Y8.out, hK30⟩
  · intro k k60 k3 k4 k6 k7 k8 k9
    rw [Y4.out k k60, e2 k k4 k6 k7 k8]
    exact HX2.out k (by omega) (by omega) (by omega) (by omega)
  · rw [Y4.out (60 + 3) (by decide), e2 (60 + 3) (by decide) (by decide) (by decide) (by decide)]
    exact h3
  · rw [Y4.out (60 + 4) (by decide), HFS2.out, Array.getElem?_setIfInBounds_ne (by decide), Array.getElem?_setIfInBounds_ne (by decide), Array.getElem?_setIfInBounds_ne (by decide), Array.getElem?_setIfInBounds_self_of_lt z4]
  · rw [Y4.out (60 + 7) (by decide), HFS2.out, Array.getElem?_setIfInBounds_self_of_lt (by simp; omega)]
  · rw [Y4.out (60 + 8) (by decide), HFS2.out, Array.getElem?_setIfInBounds_ne (by decide), Array.getElem?_setIfInBounds_ne (by decide), Array.getElem?_setIfInBounds_self_of_lt (by simp; omega)]
  · rw [Y4.out (60 + 9) (by decide), e2 (60 + 9) (by decide) (by decide) (by decide) (by decide)]
    exact hmv
  · rw [Y4.out (60 + 6) (by decide), HFS2.out, Array.getElem?_setIfInBounds_ne (by decide), Array.getElem?_setIfInBounds_self_of_lt (by simp; omega)]
end Go.Proofs.YgcsalGreat

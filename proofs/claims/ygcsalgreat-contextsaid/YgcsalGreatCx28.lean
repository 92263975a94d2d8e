/-
  The walk of (*yp.Chain).Begin at a creation with a value, on any accounts.
-/
import Derived.Test.YgcsalGreatCx27
import Derived.Test.YgcsalGreatCx19
set_option linter.unusedSimpArgs false
set_option linter.unusedVariables false
namespace Go.Own
open Go.Proofs.YgcsalGreat
/-- The address that the sender's first creation makes. -/
def ha7 : List Nat := [122, 214, 114, 252, 170, 141, 106, 253, 181, 71, 153, 72, 38, 245, 217, 41, 40, 148, 220, 69]
theorem hadr7 : hadr (214 :: 148 :: (ad 240 ++ [128])) = ha7 := by
  unfold hadr
  rw [show (214 :: 148 :: (ad 240 ++ [128])) = ls7 from rfl, ksum7]
  rfl
theorem small_ha7 : Small ha7 := by
  intro x hx
  have h : ∀ x ∈ ha7, x < 256 := by decide
  exact h x hx
theorem chB_NC (va wz lim gv pr tv : Value) : chN ⟨va, lim, gv, pr, tv, nilS, ha7⟩ wz nilS nilS = chB va wz 1 1 lim gv pr tv (ad 240) ha7 := by kernel_rfl
def laC : List (List Nat) := adWith (adWith (adWith (adWith (adWith [] (ad 240)) (ad 192)) ha7) (ad 4)) (ad 5)
theorem frG_oneNL {kd : Nat} {sb : Bool} {gv vv cu iu : Value} {sf cl : List Nat} (h1 : gv.oneCell' = true) (h2 : vv.oneCell' = true) (h3 : cu.oneCell' = true) (h4 : iu.oneCell' = true) : ∀ u ∈ (frG kd sb gv vv cu iu sf cl wnil).toArray.toList, u.oneCell' = true := fun u hu => frG_oneL (kd := kd) (sb := sb) (sf := sf) (cl := cl) (a0 := nilS) (a1 := nilS) (a3 := nilS) (a6 := nilS) h1 h2 h3 h4 rfl rfl rfl rfl u hu
end Go.Own
namespace Go.Proofs.YgcsalGreat
open Go.RowKit Go.Own
theorem setNonce_Y (c : Nat) (E : XEnv) (fr rt n1 : Value) (la : List (List Nat)) (D : List AD) (a : List Nat) (w : World) (hC : ChY w c E fr rt la) (hA : AccD D w E.vz) (ha : a.length = 20) (hsa : Small a) (hN : NumV w n1 1) (hd : D.find? (fun x => x.adr == a) = none) (hll : D.length ≤ 400) :
    Calls Salg.prog 91 #[.pointer (some ⟨c, 0, none⟩), A8 a, n1] w fun e w' => ∃ (r vz1 : Value), e = .returned r ∧ ChY w' c { E with vz := vz1 } fr rt la ∧ AccD (dPut ⟨a, 1, 0, []⟩ false D) w' vz1 ∧ Kept [c] w w' := by
  obtain ⟨wz, c1, c2⟩ := hC
  refine (setNonce_M c _ E.vz n1 1 D a w c1 (chy_nb _ _ _ _) (chN_get _ _ _ _ (by decide)) hA ha hsa hN hd (by decide) hll).mono ?_
  rintro e w' ⟨r, v', rfl, K, k1, k2⟩
  rw [show (chN E wz fr rt).setIfInBounds 0 v' = chN { E with vz := v' } wz fr rt from by kernel_rfl] at k1
  exact ⟨r, v', rfl, ⟨wz, k1, c2.keptC K c1 (by decide)⟩, k2, K⟩

set_option maxHeartbeats 4000000 in
set_option maxRecDepth 100000 in
theorem beginC_0 (c v pb cd tt : Nat) (ccs : List Nat) (va tvv : Value) (D : List AD) (B : Nat) (ds0 d2 : AD) (w : World) (hc : w.heap[c]? = some (.cells (ch0 va tvv) 119 (0, 0))) (hv : AccD D w va) (hd : D.find? (fun x => x.adr == ad 240) = some ⟨ad 240, 0, B, []⟩) (hvB : v < B) (hB : B < 256 ^ 100) (hvl : v < 256) (hdv : NatV w (Value.slice (some ⟨pb, 0, none⟩) 19 cd) probeL) (hpr : w.heap[pb]? = some (R8 tt ccs)) (hpp : probeL <+: ccs) (hd1 : (dPut ⟨ad 240, 1, B, []⟩ false D).find? (fun x => x.adr == ad 240) = some ⟨ad 240, 1, B, []⟩) (hds : (dPut ⟨ha7, 1, 0, []⟩ false (dPut ⟨ad 240, 1, B - 0, []⟩ false (dPut ⟨ad 240, 1, B, []⟩ false D))).find? (fun x => x.adr == ad 240) = some ds0) (hsB : ds0.B < 256 ^ 100) (hsV : v ≤ ds0.B) (hdn : (dPut ⟨ad 240, 1, B - 0, []⟩ false (dPut ⟨ad 240, 1, B, []⟩ false D)).find? (fun x => x.adr == ha7) = none) (hl : D.length ≤ 15) (h0 : 0 < D.length) (hl1 : (dPut ⟨ad 240, 1, B, []⟩ false D).length ≤ 15) (hlN : (dPut ⟨ha7, 1, 0, []⟩ false (dPut ⟨ad 240, 1, B - 0, []⟩ false (dPut ⟨ad 240, 1, B, []⟩ false D))).length ≤ 15) (hl2 : (dPut ⟨ad 240, 1, B - 0, []⟩ false (dPut ⟨ad 240, 1, B, []⟩ false D)).length ≤ 15) (h02 : 0 < (dPut ⟨ad 240, 1, B - 0, []⟩ false (dPut ⟨ad 240, 1, B, []⟩ false D)).length) (hv0 : v = 0) (htv : tvv.oneCell' = true) :
    Calls Salg.prog 16 #[.pointer (some ⟨c, 0, none⟩), .agg (txC v pb cd).toArray] w fun e w' => ∃ (fb cap G : Nat) (cur : Array Value) (E : XEnv) (gv fv cw iu a0 a1 a3 a6 : Value), e = .returned (.int .u8 0) ∧ ChY w' c E (.slice (some ⟨fb, 0, none⟩) 1 cap) nilS laC ∧ w'.heap[fb]? = some (.cells cur 142 (0, 0)) ∧ w.heap.size ≤ fb ∧ (∀ k, k < 60 → cur[0 + k]? = (frG 1 false gv fv cw iu ha7 (ad 240) (wrow5 a0 a1 a3 a6))[k]?) ∧ cur.size = cap * 60 ∧ cap ≤ maxLen ∧ 1 ≤ cap ∧ (a0.oneCell' = true ∧ a1.oneCell' = true ∧ a3.oneCell' = true ∧ a6.oneCell' = true) ∧ 146600 ≤ G ∧ G ≤ 147000 ∧ NumV w' gv G ∧ NumV w' fv v ∧ NatV w' cw probeL ∧ NatV w' iu [] ∧ AccD (dPut ⟨ha7, 1, 0, []⟩ false (dPut ⟨ad 240, 1, B - 0, []⟩ false (dPut ⟨ad 240, 1, B, []⟩ false D))) w' E.vz ∧ E.md.oneCell' = true ∧ E.ma = ha7 ∧ E.tv = tvv ∧ NumV w' E.lim 200000 ∧ NumV w' E.pr 0 ∧ E.gv.oneCell' = true ∧ Kept [c] w w' := by
  have M := Mem.start w []
  obtain ⟨l, q0, q00⟩ := hv
  obtain ⟨nv2, bv2, cu0, q1, q2, q3, q4⟩ := q00.find hd
  have HV : Hid (AccD D w va) := ⟨l, q0, q00⟩
  have HACC : Hid (∀ w', Kept [] w w' → Calls Salg.prog 85 #[.pointer (some ⟨c, 0, none⟩), A8 (ad 240)] w' fun e w'' => e = .returned (.agg (⟨ad 240, [nv2, bv2, cu0, nilS]⟩ : Ac).cells.toArray) ∧ Kept [] w' w'') := by
    intro w' K
    have h := account_any c 119 _ va l (ad 240) w' (K.row hc (by simp)) (ch0_0 _ _) (q0.kept K) rfl
    rw [q1] at h
    exact h
  have HN2 := hid q2
  have HB2 := hid q3
  have HC1 := hid q4.one
  have HD := hid hd
  have HV0 := hid hv0
  skip
  skip
  have HDVX := hid hdv
  have HPRW := hid hpr
  have HPPW := hid hpp
  have hpbc : pb ∉ [c] := by
    intro h
    simp at h
    subst h
    rw [hc] at hpr
    exact (chB_nb va nilS 0 0 nilS nilS nilS tvv z20 z20) tt ccs (Option.some.inj hpr)
  have HD1 := hid hd1
  have HDS := hid hds
  have HDN := hid hdn
  skip
  have hcl : c < w.heap.size := lt_of_row hc
  have hln := q00.len
  obtain ⟨n, hn⟩ : ∃ n, n = l.length := ⟨_, rfl⟩
  have hn15 : n ≤ 15 := by omega
  obtain ⟨g, cap0, cur0, eva, hg, hgx⟩ := q0.at (i := 0) (by omega)
  have HAT : Hid (∀ i (hi : i < n), ∃ (b0 b1 b2 b3 b4 b5 b6 b7 b8 b9 b10 b11 b12 b13 b14 b15 b16 b17 b18 b19 : Nat) (nv bv cu : Value), i * 24 + 24 ≤ cur0.size ∧ cur0.extract (i * 24) (i * 24 + 24) = (⟨[b0, b1, b2, b3, b4, b5, b6, b7, b8, b9, b10, b11, b12, b13, b14, b15, b16, b17, b18, b19], [nv, bv, cu, nilS]⟩ : Ac).cells.toArray ∧ nv.oneCell' = true ∧ bv.oneCell' = true ∧ cu.oneCell' = true) := by
    intro i hi
    obtain ⟨g', cap', cur', e1, e2, e3, e4⟩ := q0.at (i := i) (by omega)
    rw [eva] at e1
    cases e1
    rw [hg] at e2
    cases e2
    have hok := q0.ok l[i] (List.getElem_mem (by omega))
    obtain ⟨nv, bv, cu, N, B', ds, p1, p2, p3, p4⟩ := q00.all l[i] (List.getElem_mem (by omega))
    obtain ⟨b0, b1, b2, b3, b4, b5, b6, b7, b8, b9, b10, b11, b12, b13, b14, b15, b16, b17, b18, b19, eb⟩ := list20 hok.ha
    refine ⟨b0, b1, b2, b3, b4, b5, b6, b7, b8, b9, b10, b11, b12, b13, b14, b15, b16, b17, b18, b19, nv, bv, cu, e3, ?_, p2.one, p3.one, p4.one⟩
    rw [e4]
    have : l[i] = (⟨[b0, b1, b2, b3, b4, b5, b6, b7, b8, b9, b10, b11, b12, b13, b14, b15, b16, b17, b18, b19], [nv, bv, cu, nilS]⟩ : Ac) := by
      cases h : l[i] with
      | mk a r => rw [h] at eb p1; simp only at eb p1; rw [eb, p1]
    rw [this]
  rw [← hn] at eva
  have hX := hard1 hc (.inl rfl) (chB_nb va nilS 0 0 nilS nilS nilS tvv z20 z20)
  have HX := hid hX
  have hgc : g ∉ [c] := row_ne hc hg (by intro h; injection h with _ h _; exact absurd h (by decide))
  clear hgx hd hdv hpr hpp hd1 hds hdn hv0  q0 q00 q1 q2 q3 q4 hX hn
  subst eva
  go_enter Salg.func16, Salg.ntmps16
  go_wp2_with (first
    | ((with_reducible apply L_box M); rfl; clear M; intro tb w1 htb M; simp only [Act.put, List.setIfInBounds_toArray, List.set_cons_zero, List.set_cons_succ])
    | ((with_reducible apply W_loadAll); rfl; exact M.r0; exact Salg.underlying49; rfl; exact size49C v pb cd; simp only [Act.put, List.setIfInBounds_toArray, List.set_cons_zero, List.set_cons_succ]))
  refine (verdictC c v pb cd _ tvv D B _ (M.kept.row hc (by simp)) ((AccD.still D).kept HV.out M.kept) HD.out hvB hvl tt ccs (M.kept.row HPRW.out (by simp)) HPPW.out).mono ?_
  rintro e w2 ⟨rfl, K⟩
  replace M := M.call K
  clear K
  go_wp2_with fail
  refine S_region (by kernel_rfl) ?_
  refine E_float 0 7 [0, 1, 2, 3, 4, 5] 6 7 _ (by kernel_rfl) ⟨⟨_, _, _, _, _, rfl, zero128, rfl⟩⟩ (by simp) M.drew ?_
  clear M
  simp only [List.filterMap_cons, List.filterMap_nil, List.getElem?_cons_zero, List.getElem?_cons_succ]
  ((with_reducible apply E_run); rfl; rfl; (intro w M; go_simp; (try go_ints); (try simp only [↓IntWalk.iteOmega]); (try with_reducible rfl)); simp only [Act.put, List.setIfInBounds_toArray, List.set_cons_zero, List.set_cons_succ])
  ((with_reducible apply E_run); rfl; rfl; (intro w M; go_simp; (try go_ints); (try simp only [↓IntWalk.iteOmega]); (try with_reducible rfl)); simp only [Act.put, List.setIfInBounds_toArray, List.set_cons_zero, List.set_cons_succ])
  ((with_reducible apply E_run); rfl; rfl; (intro w M; go_simp; (try go_ints); (try simp only [↓IntWalk.iteOmega]); (try with_reducible rfl)); simp only [Act.put, List.setIfInBounds_toArray, List.set_cons_zero, List.set_cons_succ])
  ((with_reducible apply E_run); rfl; rfl; (intro w M; go_simp; (try go_ints); (try simp only [↓IntWalk.iteOmega]); (try with_reducible rfl)); simp only [Act.put, List.setIfInBounds_toArray, List.set_cons_zero, List.set_cons_succ])
  ((with_reducible apply E_run (v := .agg ((ad 240).map n8).toArray)); rfl; rfl; (intro w M; exact run_loadX (n := 20) M.r0 rfl Salg.underlying45 rfl size45 (Nat.le_of_ble_eq_true (by kernel_rfl)) (show (txC v pb cd).toArray.extract 0 (0 + 20) = _ by kernel_rfl)); simp only [Act.put, List.setIfInBounds_toArray, List.set_cons_zero, List.set_cons_succ])
  refine E_call rfl Salg.func85 (by kernel_rfl) (by kernel_rfl) (args := [.pointer (some ⟨c, 0, none⟩), A8 (ad 240)]) rfl ?_
  intro w1 K M
  clear K
  refine (HACC.out _ M.kept).mono ?_
  rintro e w3 ⟨rfl, K⟩
  replace M := M.call K
  refine ⟨_, rfl, K.mono (by simp), M, ?_⟩
  clear K
  simp only [Act.put, List.setIfInBounds_toArray, List.set_cons_zero, List.set_cons_succ]
  refine E_nil ?_
  intro w4 K M
  clear K
  intro t7 w5 K ht7 M
  clear K
  simp only [Act.put, List.setIfInBounds_toArray, List.set_cons_zero, List.set_cons_succ]
  refine S_seg 7 8 (by kernel_rfl) (by decide) ?_
  simp only [List.take_succ_cons, List.take_zero, List.drop_zero, List.drop_succ_cons, Nat.sub_zero, Nat.reduceSub]
  have HONE : Hid (∀ u ∈ (⟨ad 240, [nv2, bv2, cu0, nilS]⟩ : Ac).cells.toArray.toList, u.oneCell' = true) := by
    apply oneL
    have e : ((⟨ad 240, [nv2, bv2, cu0, nilS]⟩ : Ac).cells.all fun u => u.oneCell') = (nv2.oneCell' && (bv2.oneCell' && (cu0.oneCell' && true))) := by kernel_rfl
    rw [e, HN2.out.one, HB2.out.one, HC1.out]
    rfl
  go_wp2_with ((with_reducible apply W_storeK (b := t7) (vs := (⟨ad 240, [nv2, bv2, cu0, nilS]⟩ : Ac).cells.toArray)); rfl; rfl; exact M.r0; exact size128; rfl; exact HONE.out; intro w6 K hr3; replace M := Mem.callPut (L1 := []) M (Or.inr ht7) K hr3; clear K hr3; simp only [List.nil_append] at M)
  refine S_done ?_
  have hct7 : c ≠ t7 := by omega
  have hctb : c ≠ tb := by omega
  go_wp2_with (first
    | ((with_reducible apply W_loadX (n := 20) (vs := ((ad 1).map n8).toArray)); rfl; exact M.r1; exact Salg.underlying45; rfl; exact size45; exact Nat.le_of_ble_eq_true (by kernel_rfl); exact (show (txC v pb cd).toArray.extract 20 (20 + 20) = _ by kernel_rfl); simp only [Act.put, List.setIfInBounds_toArray, List.set_cons_zero, List.set_cons_succ])
    | ((with_reducible apply L_allocA (d := 8) M); exact zero45; clear M; intro t8 w7 ht8 M; simp only [Act.put, List.setIfInBounds_toArray, List.set_cons_zero, List.set_cons_succ])
    | ((with_reducible apply W_storeK (b := t8) (vs := ((ad 1).map n8).toArray)); rfl; rfl; exact M.r0; exact size45; rfl; exact one8 _; intro w8 K hr3; replace M := Mem.callPut (L1 := []) M (Or.inr ht8) K hr3; clear K hr3; simp only [List.nil_append] at M; have hct8 : c ≠ t8 := (by omega); have hcr : w8.heap[c]? = some (.cells (chB (.slice (some ⟨g, 0, none⟩) n cap0) nilS 0 0 nilS nilS nilS tvv z20 z20) 119 (0, 0)) := M.kept.row hc (by simp); replace M := M.into hcr (by intro p hp; simp only [List.mem_cons, List.not_mem_nil, or_false] at hp; rcases hp with rfl | rfl | rfl; exact hct8; exact hct7; exact hctb); clear hcr)
    | ((with_reducible apply W_stP (b := c) (o := 39) (n := 20) (v := .agg (z20.map n8).toArray) (rs := (chB (.slice (some ⟨g, 0, none⟩) n cap0) nilS 0 0 nilS nilS nilS tvv z20 z20))); rfl; exact congrArg Value.agg (by kernel_rfl); exact M.r0; exact size45; kernel_rfl; exact oneL rfl; exact Nat.le_of_ble_eq_true (by kernel_rfl); kernel_rfl; intro wS K hr3; replace M := Mem.callPut (L1 := []) M (Or.inl (by simp)) K hr3; clear K hr3; simp only [List.nil_append] at M)
    | ((with_reducible apply W_stV (b := c) (o := 9) (v := nilS)); rfl; rfl; exact rfl; exact M.r0; exact size115; exact Nat.le_of_ble_eq_true (by kernel_rfl); intro wS K hr3; rw [show (chB (.slice (some ⟨g, 0, none⟩) n cap0) nilS 0 0 nilS nilS nilS tvv z20 z20).setIfInBounds 9 (nilS) = (chB (.slice (some ⟨g, 0, none⟩) n cap0) nilS 0 0 nilS nilS nilS tvv z20 z20) from by kernel_rfl] at hr3; replace M := Mem.callPut (L1 := []) M (Or.inl (by simp)) K hr3; clear K hr3; simp only [List.nil_append] at M)
    | ((with_reducible apply W_loadCell); rfl; exact M.r3; exact (show (txC v pb cd).toArray[40]? = some (.bool true) by kernel_rfl); exact Salg.underlying4; rfl; simp only [Act.put, List.setIfInBounds_toArray, List.set_cons_zero, List.set_cons_succ])
    | ((with_reducible apply W_loadX (o := 0) (n := 20) (vs := ((ad 240).map n8).toArray)); rfl; exact M.r3; exact Salg.underlying45; rfl; exact size45; exact Nat.le_of_ble_eq_true (by kernel_rfl); exact (show (txC v pb cd).toArray.extract 0 (0 + 20) = _ by kernel_rfl); simp only [Act.put, List.setIfInBounds_toArray, List.set_cons_zero, List.set_cons_succ])
    | ((with_reducible apply W_loadCell); rfl; exact M.r2; exact (show (⟨ad 240, [nv2, bv2, cu0, nilS]⟩ : Ac).cells.toArray[20]? = some nv2 by kernel_rfl); exact Salg.underlying89; rfl; simp only [Act.put, List.setIfInBounds_toArray, List.set_cons_zero, List.set_cons_succ]))
  refine (createAddr_0 nv2 (ad 240) _ (HN2.out.keptN M.kept HX.out) rfl smallAd240).mono ?_
  rintro e wk ⟨rfl, K⟩
  rw [hadr7]
  replace M := M.call K
  clear K
  go_wp2_with (first
    | ((with_reducible apply W_storeK (b := t8) (vs := (ha7.map n8).toArray)); rfl; rfl; exact M.r1; exact size45; rfl; exact one8 _; intro wl K hr3; replace M := Mem.callPut (L1 := [_]) M (Or.inr ht8) K hr3; clear K hr3; simp only [List.cons_append, List.nil_append] at M)
    | ((with_reducible apply W_loadAll); rfl; exact M.r1; exact Salg.underlying45; rfl; exact size45; simp only [Act.put, List.setIfInBounds_toArray, List.set_cons_zero, List.set_cons_succ])
    | ((with_reducible apply W_stP (b := c) (o := 39) (n := 20) (v := .agg (ha7.map n8).toArray) (rs := (chB (.slice (some ⟨g, 0, none⟩) n cap0) nilS 0 0 nilS nilS nilS tvv z20 ha7))); rfl; rfl; exact M.r0; exact size45; kernel_rfl; exact oneL rfl; exact Nat.le_of_ble_eq_true (by kernel_rfl); kernel_rfl; intro wS K hr3; replace M := Mem.callPut (L1 := []) M (Or.inl (by simp)) K hr3; clear K hr3; simp only [List.nil_append] at M)
    | ((with_reducible apply W_loadCell); rfl; exact M.r0; exact (show (chB (.slice (some ⟨g, 0, none⟩) n cap0) nilS 0 0 nilS nilS nilS tvv z20 ha7)[13]? = some (.int .u8 0) by kernel_rfl); exact Salg.underlying5; rfl; simp only [Act.put, List.setIfInBounds_toArray, List.set_cons_zero, List.set_cons_succ])
    | ((with_reducible apply W_stV (b := c) (o := 13) (v := .int .u8 1)); rfl; rfl; exact rfl; exact M.r0; exact size5; exact Nat.le_of_ble_eq_true (by kernel_rfl); intro wS K hr3; rw [show (chB (.slice (some ⟨g, 0, none⟩) n cap0) nilS 0 0 nilS nilS nilS tvv z20 ha7).setIfInBounds 13 (.int .u8 1) = (chB (.slice (some ⟨g, 0, none⟩) n cap0) nilS 0 1 nilS nilS nilS tvv z20 ha7) from by kernel_rfl] at hr3; replace M := Mem.callPut (L1 := []) M (Or.inl (by simp)) K hr3; clear K hr3; simp only [List.nil_append] at M)
    | ((with_reducible apply W_loadCell); rfl; exact M.r3; exact (show (txC v pb cd).toArray[42]? = some (n64 200000) by kernel_rfl); exact Salg.underlying23; rfl; simp only [Act.put, List.setIfInBounds_toArray, List.set_cons_zero, List.set_cons_succ]))
  refine (num_int _ 200000 rfl (by decide) _).mono ?_
  rintro e w9 ⟨lim, rfl, xHLI, K⟩
  have HLI := hid xHLI
  replace M := M.call K
  clear K xHLI
  go_wp2_with ((with_reducible apply W_stV (b := c) (o := 14) (v := lim)); rfl; rfl; exact HLI.out.one; exact M.r0; exact size89; exact Nat.le_of_ble_eq_true (by kernel_rfl); intro wS K hr3; rw [show (chB (.slice (some ⟨g, 0, none⟩) n cap0) nilS 0 1 nilS nilS nilS tvv z20 ha7).setIfInBounds 14 (lim) = (chB (.slice (some ⟨g, 0, none⟩) n cap0) nilS 0 1 lim nilS nilS tvv z20 ha7) from by kernel_rfl] at hr3; replace HLI := hid (HLI.out.keptC K M.r0 (chB_nb _ _ _ _ _ _ _ _ _ _)); replace M := Mem.callPut (L1 := []) M (Or.inl (by simp)) K hr3; clear K hr3; simp only [List.nil_append] at M)
  refine S_region (by kernel_rfl) ?_
  replace HLI := hid (HLI.out.kept (Kept.refl [] _).drew)
  refine E_stage 0 8 [0, 1, 2, 3, 4, 5, 6, 7] (by kernel_rfl) M.drew ?_
  clear M
  simp only [List.filterMap_cons, List.filterMap_nil, List.getElem?_cons_zero, List.getElem?_cons_succ]
  ((with_reducible apply E_run); rfl; rfl; (intro w M; go_simp; (try go_ints); (try simp only [↓IntWalk.iteOmega]); (try with_reducible rfl)); simp only [Act.put, List.setIfInBounds_toArray, List.set_cons_zero, List.set_cons_succ])
  ((with_reducible apply E_run); rfl; rfl; (intro w M; go_simp; (try go_ints); (try simp only [↓IntWalk.iteOmega]); (try with_reducible rfl)); simp only [Act.put, List.setIfInBounds_toArray, List.set_cons_zero, List.set_cons_succ])
  ((with_reducible apply E_run); rfl; rfl; (intro w M; go_simp; (try go_ints); (try simp only [↓IntWalk.iteOmega]); (try with_reducible rfl)); simp only [Act.put, List.setIfInBounds_toArray, List.set_cons_zero, List.set_cons_succ])
  ((with_reducible apply E_run); rfl; rfl; (intro w M; go_simp; (try go_ints); (try simp only [↓IntWalk.iteOmega]); (try with_reducible rfl)); simp only [Act.put, List.setIfInBounds_toArray, List.set_cons_zero, List.set_cons_succ])
  ((with_reducible apply E_run); rfl; rfl; (intro w M; exact run_loadCell (M.r0) rfl (show (chB (.slice (some ⟨g, 0, none⟩) n cap0) nilS 0 1 lim nilS nilS tvv z20 ha7)[14]? = some lim by kernel_rfl) Salg.underlying89 rfl); simp only [Act.put, List.setIfInBounds_toArray, List.set_cons_zero, List.set_cons_succ])
  ((with_reducible apply E_run); rfl; rfl; (intro w M; exact run_loadAll M.r3 rfl Salg.underlying49 rfl (size49C v pb cd)); simp only [Act.put, List.setIfInBounds_toArray, List.set_cons_zero, List.set_cons_succ])
  refine E_call rfl Salg.func89 (by kernel_rfl) (by kernel_rfl) (args := [.agg (txC v pb cd).toArray]) rfl ?_
  intro w1 K M
  replace HLI := hid (HLI.out.kept K)
  clear K
  refine (intrinsicC v pb cd tt ccs _ (M.kept.row HPRW.out hpbc) HPPW.out).mono ?_
  rintro e w10 ⟨ig, I, rfl, xHIG, xHI1, xHI2, K⟩
  replace HLI := hid (HLI.out.kept K)
  have HIG := hid xHIG
  have HI1 := hid xHI1
  have HI2 := hid xHI2
  replace M := M.call K
  refine ⟨_, rfl, trivial, M, ?_⟩
  clear K xHIG xHI1 xHI2
  simp only [Act.put, List.setIfInBounds_toArray, List.set_cons_zero, List.set_cons_succ]
  refine E_call rfl Salg.func88 (by kernel_rfl) (by kernel_rfl) (args := [lim, ig]) rfl ?_
  intro w1 K M
  replace HLI := hid (HLI.out.kept K)
  replace HIG := hid (HIG.out.kept K)
  clear K
  refine (less_any lim ig 200000 I _ HLI.out HIG.out (by decide) (by have := HI2.out; omega)).mono ?_
  rintro e w11 ⟨gv, rfl, xHGV, K⟩
  replace HLI := hid (HLI.out.kept K)
  replace HIG := hid (HIG.out.kept K)
  have HGV := hid xHGV
  replace M := M.call K
  refine ⟨_, rfl, trivial, M, ?_⟩
  clear K xHGV
  simp only [Act.put, List.setIfInBounds_toArray, List.set_cons_zero, List.set_cons_succ]
  refine E_nil ?_
  intro w12 K M
  replace HLI := hid (HLI.out.kept K)
  replace HIG := hid (HIG.out.kept K)
  replace HGV := hid (HGV.out.kept K)
  clear K
  clear HIG
  obtain ⟨G, hGd⟩ : ∃ G, G = 200000 - I := ⟨_, rfl⟩
  rw [← hGd] at HGV
  have hG1 : 146600 ≤ G ∧ G ≤ 147000 := by
    have h1 := HI1.out
    have h2 := HI2.out
    omega
  have HGG := hid hG1
  clear hGd HI1 HI2 hG1
  refine S_seg 8 11 (by kernel_rfl) (by decide) ?_
  simp only [List.take_succ_cons, List.take_zero, List.drop_zero, List.drop_succ_cons, Nat.sub_zero, Nat.reduceSub]
  go_wp2_with ((with_reducible apply W_stV (b := c) (o := 15) (v := gv)); rfl; rfl; exact HGV.out.one; exact M.r0; exact size89; exact Nat.le_of_ble_eq_true (by kernel_rfl); intro wS K hr3; rw [show (chB (.slice (some ⟨g, 0, none⟩) n cap0) nilS 0 1 lim nilS nilS tvv z20 ha7).setIfInBounds 15 (gv) = (chB (.slice (some ⟨g, 0, none⟩) n cap0) nilS 0 1 lim gv nilS tvv z20 ha7) from by kernel_rfl] at hr3; replace HLI := hid (HLI.out.keptC K M.r0 (chB_nb _ _ _ _ _ _ _ _ _ _)); replace HGV := hid (HGV.out.keptC K M.r0 (chB_nb _ _ _ _ _ _ _ _ _ _)); replace M := Mem.callPut (L1 := []) M (Or.inl (by simp)) K hr3; clear K hr3; simp only [List.nil_append] at M)
  refine S_done ?_
  go_wp2_with ((with_reducible apply W_loadAll); rfl; exact M.r3; exact Salg.underlying49; rfl; exact size49C v pb cd; simp only [Act.put, List.setIfInBounds_toArray, List.set_cons_zero, List.set_cons_succ])
  refine (priceC c 119 _ v pb cd _ M.r0 (chL_fee rfl rfl rfl) (by kernel_rfl)).mono ?_
  rintro e w13 ⟨pr, rfl, xHPR, K⟩
  replace HLI := hid (HLI.out.kept K)
  replace HGV := hid (HGV.out.kept K)
  have HPR := hid xHPR
  replace M := M.call K
  clear K xHPR
  go_wp2_with (first
    | ((with_reducible apply W_stV (b := c) (o := 17) (v := pr)); rfl; rfl; exact HPR.out.one; exact M.r0; exact size89; exact Nat.le_of_ble_eq_true (by kernel_rfl); intro wS K hr3; rw [show (chB (.slice (some ⟨g, 0, none⟩) n cap0) nilS 0 1 lim gv nilS tvv z20 ha7).setIfInBounds 17 (pr) = (chB (.slice (some ⟨g, 0, none⟩) n cap0) nilS 0 1 lim gv pr tvv z20 ha7) from by kernel_rfl] at hr3; replace HLI := hid (HLI.out.keptC K M.r0 (chB_nb _ _ _ _ _ _ _ _ _ _)); replace HGV := hid (HGV.out.keptC K M.r0 (chB_nb _ _ _ _ _ _ _ _ _ _)); replace HPR := hid (HPR.out.keptC K M.r0 (chB_nb _ _ _ _ _ _ _ _ _ _)); replace M := Mem.callPut (L1 := []) M (Or.inl (by simp)) K hr3; clear K hr3; simp only [List.nil_append] at M)
    | ((with_reducible apply W_loadX (n := 20) (vs := ((ad 240).map n8).toArray)); rfl; exact M.r3; exact Salg.underlying45; rfl; exact size45; exact Nat.le_of_ble_eq_true (by kernel_rfl); exact (show (txC v pb cd).toArray.extract 0 (0 + 20) = _ by kernel_rfl); simp only [Act.put, List.setIfInBounds_toArray, List.set_cons_zero, List.set_cons_succ])
    | ((with_reducible apply W_stP (b := c) (o := 19) (n := 20) (v := .agg ((ad 240).map n8).toArray) (rs := (chB (.slice (some ⟨g, 0, none⟩) n cap0) nilS 0 1 lim gv pr tvv (ad 240) ha7))); rfl; rfl; exact M.r0; exact size45; kernel_rfl; exact oneL rfl; exact Nat.le_of_ble_eq_true (by kernel_rfl); kernel_rfl; intro wS K hr3; replace HLI := hid (HLI.out.keptC K M.r0 (chB_nb _ _ _ _ _ _ _ _ _ _)); replace HGV := hid (HGV.out.keptC K M.r0 (chB_nb _ _ _ _ _ _ _ _ _ _)); replace HPR := hid (HPR.out.keptC K M.r0 (chB_nb _ _ _ _ _ _ _ _ _ _)); replace M := Mem.callPut (L1 := []) M (Or.inl (by simp)) K hr3; clear K hr3; simp only [List.nil_append] at M)
    | ((with_reducible apply W_stV (b := c) (o := 8) (v := nilS)); rfl; rfl; exact rfl; exact M.r0; exact size114; exact Nat.le_of_ble_eq_true (by kernel_rfl); intro wS K hr3; rw [show (chB (.slice (some ⟨g, 0, none⟩) n cap0) nilS 0 1 lim gv pr tvv (ad 240) ha7).setIfInBounds 8 (nilS) = (chB (.slice (some ⟨g, 0, none⟩) n cap0) nilS 0 1 lim gv pr tvv (ad 240) ha7) from by kernel_rfl] at hr3; replace HLI := hid (HLI.out.keptC K M.r0 (chB_nb _ _ _ _ _ _ _ _ _ _)); replace HGV := hid (HGV.out.keptC K M.r0 (chB_nb _ _ _ _ _ _ _ _ _ _)); replace HPR := hid (HPR.out.keptC K M.r0 (chB_nb _ _ _ _ _ _ _ _ _ _)); replace M := Mem.callPut (L1 := []) M (Or.inl (by simp)) K hr3; clear K hr3; simp only [List.nil_append] at M)
    | ((with_reducible apply W_loadCell); rfl; exact M.r0; exact (show (chB (.slice (some ⟨g, 0, none⟩) n cap0) nilS 0 1 lim gv pr tvv (ad 240) ha7)[0]? = some (.slice (some ⟨g, 0, none⟩) n cap0) by kernel_rfl); exact Salg.underlying108; rfl; simp only [Act.put, List.setIfInBounds_toArray, List.set_cons_zero, List.set_cons_succ]))
  go_loopw [96] (fun iv wr => ∃ i : Nat, i ≤ n ∧ iv = .int .i64 (i : Int) ∧ Mem w [c] [(c, .cells (chB (.slice (some ⟨g, 0, none⟩) n cap0) nilS 0 1 lim gv pr tvv (ad 240) ha7) 119 (0, 0)), (t8, .cells (ha7.map n8).toArray 45 (0, 0)), (t7, .cells (⟨ad 240, [nv2, bv2, cu0, nilS]⟩ : Ac).cells.toArray 128 (0, 0)), (tb, .cells (txC v pb cd).toArray 49 (0, 0))] wr ∧ NumV wr lim 200000 ∧ NumV wr gv G ∧ NumV wr pr 0) (fun iv _ => (n - intOf iv).toNat)
  case atStart => exact ⟨0, Nat.zero_le _, rfl, M, HLI.out, HGV.out, HPR.out⟩
  case round =>
    clear M HLI HGV HPR
    obtain ⟨i, hi, rfl, M, y1, y2, y3⟩ := hrel
    have HLI := hid y1
    have HGV := hid y2
    have HPR := hid y3
    clear y1 y2 y3
    rcases Nat.lt_or_ge i n with hlt | hge
    · obtain ⟨b0, b1, b2, b3, b4, b5, b6, b7, b8, b9, b10, b11, b12, b13, b14, b15, b16, b17, b18, b19, nv, bv, cu, hs2, hex, o1, o2, o3⟩ := HAT.out i hlt
      have HEX := hid hex
      have HO1 := hid (acE_one (b0 := b0) (b1 := b1) (b2 := b2) (b3 := b3) (b4 := b4) (b5 := b5) (b6 := b6) (b7 := b7) (b8 := b8) (b9 := b9) (b10 := b10) (b11 := b11) (b12 := b12) (b13 := b13) (b14 := b14) (b15 := b15) (b16 := b16) (b17 := b17) (b18 := b18) (b19 := b19) o1 o2 o3)
      clear hex o1 o2 o3
      go_wp2_with (first
        | ((with_reducible apply W_loadX (b := g) (o := i * 24) (n := 24) (cs := cur0) (vs := (⟨[b0, b1, b2, b3, b4, b5, b6, b7, b8, b9, b10, b11, b12, b13, b14, b15, b16, b17, b18, b19], [nv, bv, cu, nilS]⟩ : Ac).cells.toArray)); (first | rfl | (simp [Act.eval]; done)); exact M.kept.row hg hgc; exact Salg.underlying128; rfl; exact size128; exact hs2; exact HEX.out; simp only [Act.put, List.setIfInBounds_toArray, List.set_cons_zero, List.set_cons_succ])
        | ((with_reducible apply L_allocN (d := 10) M); exact zero128; clear M; intro t10 w1 ht10 ht10N K M; replace HLI := hid (HLI.out.kept K); replace HGV := hid (HGV.out.kept K); replace HPR := hid (HPR.out.kept K); clear K ht10N; simp only [Act.put, List.setIfInBounds_toArray, List.set_cons_zero, List.set_cons_succ])
        | ((with_reducible apply W_storeK (b := t10) (vs := (⟨[b0, b1, b2, b3, b4, b5, b6, b7, b8, b9, b10, b11, b12, b13, b14, b15, b16, b17, b18, b19], [nv, bv, cu, nilS]⟩ : Ac).cells.toArray)); rfl; rfl; exact M.r0; exact size128; rfl; exact HO1.out; intro w3 K hr3; replace HLI := hid (HLI.out.keptC K M.r0 (not_bytes_at (i := 23) (p := none) (n := 0) (m := 0) (by kernel_rfl))); replace HGV := hid (HGV.out.keptC K M.r0 (not_bytes_at (i := 23) (p := none) (n := 0) (m := 0) (by kernel_rfl))); replace HPR := hid (HPR.out.keptC K M.r0 (not_bytes_at (i := 23) (p := none) (n := 0) (m := 0) (by kernel_rfl))); replace M := Mem.callPut (L1 := []) M (Or.inr ht10) K hr3; clear K hr3; simp only [List.nil_append] at M)
        | ((with_reducible apply W_loadCell); rfl; exact M.r0; exact (show (⟨[b0, b1, b2, b3, b4, b5, b6, b7, b8, b9, b10, b11, b12, b13, b14, b15, b16, b17, b18, b19], [nv, bv, cu, nilS]⟩ : Ac).cells.toArray[23]? = some nilS by kernel_rfl); exact Salg.underlying126; rfl; simp only [Act.put, List.setIfInBounds_toArray, List.set_cons_zero, List.set_cons_succ]))
      replace M := M.tail
      go_loopw [103] (fun iv wx => iv = .int .i64 0 ∧ Mem w [c] [(c, .cells (chB (.slice (some ⟨g, 0, none⟩) n cap0) nilS 0 1 lim gv pr tvv (ad 240) ha7) 119 (0, 0)), (t8, .cells (ha7.map n8).toArray 45 (0, 0)), (t7, .cells (⟨ad 240, [nv2, bv2, cu0, nilS]⟩ : Ac).cells.toArray 128 (0, 0)), (tb, .cells (txC v pb cd).toArray 49 (0, 0))] wx ∧ NumV wx lim 200000 ∧ NumV wx gv G ∧ NumV wx pr 0) (fun _ _ => 0)
      case atStart => exact ⟨rfl, M, HLI.out, HGV.out, HPR.out⟩
      case round =>
        clear M HLI HGV HPR
        obtain ⟨rfl, M, y1, y2, y3⟩ := hrel
        go_wp2_with fail
        go_roundw
        case rel => exact ⟨i + 1, by omega, by go_num, M, y1, y2, y3⟩
        case measure => simp [intOf]; omega
    · have hin : i = n := by omega
      subst hin
      clear hge hi HAT
      have HAC : Hid (AccD D _ (.slice (some ⟨g, 0, none⟩) i cap0)) := (AccD.still D) _ _ _ _ HV.out M.kept HX.out
      replace HN2 := hid (HN2.out.keptN M.kept HX.out)
      replace HB2 := hid (HB2.out.keptN M.kept HX.out)
      go_wp2_with fail
      refine S_region (by kernel_rfl) ?_
      replace HLI := hid (HLI.out.kept (Kept.refl [] _).drew)
      replace HGV := hid (HGV.out.kept (Kept.refl [] _).drew)
      replace HPR := hid (HPR.out.kept (Kept.refl [] _).drew)
      replace HAC := hid ((AccD.still _).kept HAC.out (Kept.refl [] _).drew)
      replace HN2 := hid (HN2.out.kept (Kept.refl [] _).drew)
      replace HB2 := hid (HB2.out.kept (Kept.refl [] _).drew)
      refine E_stage 0 9 [0, 1, 2, 3, 4, 5, 6, 7, 8] (by kernel_rfl) M.drew ?_
      clear M
      simp only [List.filterMap_cons, List.filterMap_nil, List.getElem?_cons_zero, List.getElem?_cons_succ]
      ((with_reducible apply E_run); rfl; rfl; (intro w M; go_simp; (try go_ints); (try simp only [↓IntWalk.iteOmega]); (try with_reducible rfl)); simp only [Act.put, List.setIfInBounds_toArray, List.set_cons_zero, List.set_cons_succ])
      ((with_reducible apply E_run); rfl; rfl; (intro w M; go_simp; (try go_ints); (try simp only [↓IntWalk.iteOmega]); (try with_reducible rfl)); simp only [Act.put, List.setIfInBounds_toArray, List.set_cons_zero, List.set_cons_succ])
      ((with_reducible apply E_run); rfl; rfl; (intro w M; go_simp; (try go_ints); (try simp only [↓IntWalk.iteOmega]); (try with_reducible rfl)); simp only [Act.put, List.setIfInBounds_toArray, List.set_cons_zero, List.set_cons_succ])
      ((with_reducible apply E_run); rfl; rfl; (intro w M; go_simp; (try go_ints); (try simp only [↓IntWalk.iteOmega]); (try with_reducible rfl)); simp only [Act.put, List.setIfInBounds_toArray, List.set_cons_zero, List.set_cons_succ])
      ((with_reducible apply E_run (v := .agg ((ad 240).map n8).toArray)); rfl; rfl; (intro w M; exact run_loadX (n := 20) M.r3 rfl Salg.underlying45 rfl size45 (Nat.le_of_ble_eq_true (by kernel_rfl)) (show (txC v pb cd).toArray.extract 0 (0 + 20) = _ by kernel_rfl)); simp only [Act.put, List.setIfInBounds_toArray, List.set_cons_zero, List.set_cons_succ])
      ((with_reducible apply E_run); rfl; rfl; (intro w M; go_simp; (try go_ints); (try simp only [↓IntWalk.iteOmega]); (try with_reducible rfl)); simp only [Act.put, List.setIfInBounds_toArray, List.set_cons_zero, List.set_cons_succ])
      ((with_reducible apply E_run); rfl; rfl; (intro w M; exact run_loadCell (M.r2) rfl (show (⟨ad 240, [nv2, bv2, cu0, nilS]⟩ : Ac).cells.toArray[20]? = some nv2 by kernel_rfl) Salg.underlying89 rfl); simp only [Act.put, List.setIfInBounds_toArray, List.set_cons_zero, List.set_cons_succ])
      refine E_call rfl Salg.func87 (by kernel_rfl) (by kernel_rfl) (args := [.int .u64 1]) rfl ?_
      intro w1 K M
      replace HLI := hid (HLI.out.kept K)
      replace HGV := hid (HGV.out.kept K)
      replace HPR := hid (HPR.out.kept K)
      replace HAC := hid ((AccD.still _).kept HAC.out K)
      replace HN2 := hid (HN2.out.kept K)
      replace HB2 := hid (HB2.out.kept K)
      clear K
      refine (num_int _ 1 rfl (by decide) _).mono ?_
      rintro e w14 ⟨on, rfl, xHON, K⟩
      replace HLI := hid (HLI.out.kept K)
      replace HGV := hid (HGV.out.kept K)
      replace HPR := hid (HPR.out.kept K)
      replace HAC := hid ((AccD.still _).kept HAC.out K)
      replace HN2 := hid (HN2.out.kept K)
      replace HB2 := hid (HB2.out.kept K)
      have HON := hid xHON
      replace M := M.call K
      refine ⟨_, rfl, trivial, M, ?_⟩
      clear K xHON
      simp only [Act.put, List.setIfInBounds_toArray, List.set_cons_zero, List.set_cons_succ]
      refine E_call rfl Salg.func68 (by kernel_rfl) (by kernel_rfl) (args := [nv2, on]) rfl ?_
      intro w1 K M
      replace HLI := hid (HLI.out.kept K)
      replace HGV := hid (HGV.out.kept K)
      replace HPR := hid (HPR.out.kept K)
      replace HAC := hid ((AccD.still _).kept HAC.out K)
      replace HN2 := hid (HN2.out.kept K)
      replace HB2 := hid (HB2.out.kept K)
      replace HON := hid (HON.out.kept K)
      clear K
      refine (add_num nv2 on 0 1 _ HN2.out HON.out (by decide) (by decide)).mono ?_
      rintro e w15 ⟨nn, rfl, xHNN, K⟩
      replace HLI := hid (HLI.out.kept K)
      replace HGV := hid (HGV.out.kept K)
      replace HPR := hid (HPR.out.kept K)
      replace HAC := hid ((AccD.still _).kept HAC.out K)
      replace HN2 := hid (HN2.out.kept K)
      replace HB2 := hid (HB2.out.kept K)
      replace HON := hid (HON.out.kept K)
      have HNN := hid xHNN
      replace M := M.call K
      refine ⟨_, rfl, trivial, M, ?_⟩
      clear K xHNN
      simp only [Act.put, List.setIfInBounds_toArray, List.set_cons_zero, List.set_cons_succ]
      refine E_nil ?_
      intro w16 K M
      replace HLI := hid (HLI.out.kept K)
      replace HGV := hid (HGV.out.kept K)
      replace HPR := hid (HPR.out.kept K)
      replace HAC := hid ((AccD.still _).kept HAC.out K)
      replace HN2 := hid (HN2.out.kept K)
      replace HB2 := hid (HB2.out.kept K)
      replace HON := hid (HON.out.kept K)
      replace HNN := hid (HNN.out.kept K)
      clear K
      clear HON HN2
      refine S_seg 9 10 (by kernel_rfl) (by decide) ?_
      simp only [List.take_succ_cons, List.take_zero, List.drop_zero, List.drop_succ_cons, Nat.sub_zero, Nat.reduceSub]
      go_wp2_with fail
      refine (setNonce_D c _ (.slice (some ⟨g, 0, none⟩) i cap0) nn (0 + 1) D _ (ad 240) _ M.r0 (chB_nb _ _ _ _ _ _ _ _ _ _) (by kernel_rfl) HAC.out rfl smallAd240 HNN.out HD.out (by decide) (by omega)).mono ?_
      rintro e w17 ⟨r, v1, rfl, K, k1, k2⟩
      rw [show (chB (.slice (some ⟨g, 0, none⟩) i cap0) nilS 0 1 lim gv pr tvv (ad 240) ha7).setIfInBounds 0 v1 = (chB v1 nilS 0 1 lim gv pr tvv (ad 240) ha7) from by kernel_rfl] at k1
      replace HLI := hid (HLI.out.keptC K M.r0 (chB_nb _ _ _ _ _ _ _ _ _ _))
      replace HGV := hid (HGV.out.keptC K M.r0 (chB_nb _ _ _ _ _ _ _ _ _ _))
      replace HPR := hid (HPR.out.keptC K M.r0 (chB_nb _ _ _ _ _ _ _ _ _ _))
      replace HB2 := hid (HB2.out.keptC K M.r0 (chB_nb _ _ _ _ _ _ _ _ _ _))
      replace HAC := hid k2
      replace M := Mem.callPut (L1 := []) M (Or.inl (by simp)) K k1
      clear K k1 k2
      simp only [List.nil_append] at M
      clear HNN
      go_wp2_with fail
      refine S_done ?_
      go_wp2_with fail
      refine S_region (by kernel_rfl) ?_
      replace HLI := hid (HLI.out.kept (Kept.refl [] _).drew)
      replace HGV := hid (HGV.out.kept (Kept.refl [] _).drew)
      replace HPR := hid (HPR.out.kept (Kept.refl [] _).drew)
      replace HAC := hid ((AccD.still _).kept HAC.out (Kept.refl [] _).drew)
      replace HB2 := hid (HB2.out.kept (Kept.refl [] _).drew)
      refine E_stage 0 17 [0, 1, 2, 3, 4, 5, 6, 7, 8, 9, 10, 11, 12, 13, 14, 15, 16] (by kernel_rfl) M.drew ?_
      clear M
      simp only [List.filterMap_cons, List.filterMap_nil, List.getElem?_cons_zero, List.getElem?_cons_succ]
      ((with_reducible apply E_run); rfl; rfl; (intro w M; go_simp; (try go_ints); (try simp only [↓IntWalk.iteOmega]); (try with_reducible rfl)); simp only [Act.put, List.setIfInBounds_toArray, List.set_cons_zero, List.set_cons_succ])
      ((with_reducible apply E_run); rfl; rfl; (intro w M; go_simp; (try go_ints); (try simp only [↓IntWalk.iteOmega]); (try with_reducible rfl)); simp only [Act.put, List.setIfInBounds_toArray, List.set_cons_zero, List.set_cons_succ])
      ((with_reducible apply E_run); rfl; rfl; (intro w M; go_simp; (try go_ints); (try simp only [↓IntWalk.iteOmega]); (try with_reducible rfl)); simp only [Act.put, List.setIfInBounds_toArray, List.set_cons_zero, List.set_cons_succ])
      ((with_reducible apply E_run); rfl; rfl; (intro w M; go_simp; (try go_ints); (try simp only [↓IntWalk.iteOmega]); (try with_reducible rfl)); simp only [Act.put, List.setIfInBounds_toArray, List.set_cons_zero, List.set_cons_succ])
      ((with_reducible apply E_run (v := .agg ((ad 240).map n8).toArray)); rfl; rfl; (intro w M; exact run_loadX (n := 20) M.r3 rfl Salg.underlying45 rfl size45 (Nat.le_of_ble_eq_true (by kernel_rfl)) (show (txC v pb cd).toArray.extract 0 (0 + 20) = _ by kernel_rfl)); simp only [Act.put, List.setIfInBounds_toArray, List.set_cons_zero, List.set_cons_succ])
      ((with_reducible apply E_run); rfl; rfl; (intro w M; go_simp; (try go_ints); (try simp only [↓IntWalk.iteOmega]); (try with_reducible rfl)); simp only [Act.put, List.setIfInBounds_toArray, List.set_cons_zero, List.set_cons_succ])
      ((with_reducible apply E_run); rfl; rfl; (intro w M; exact run_loadCell (M.r2) rfl (show (⟨ad 240, [nv2, bv2, cu0, nilS]⟩ : Ac).cells.toArray[21]? = some bv2 by kernel_rfl) Salg.underlying89 rfl); simp only [Act.put, List.setIfInBounds_toArray, List.set_cons_zero, List.set_cons_succ])
      ((with_reducible apply E_run); rfl; rfl; (intro w M; go_simp; (try go_ints); (try simp only [↓IntWalk.iteOmega]); (try with_reducible rfl)); simp only [Act.put, List.setIfInBounds_toArray, List.set_cons_zero, List.set_cons_succ])
      ((with_reducible apply E_run); rfl; rfl; (intro w M; go_simp; (try go_ints); (try simp only [↓IntWalk.iteOmega]); (try with_reducible rfl)); simp only [Act.put, List.setIfInBounds_toArray, List.set_cons_zero, List.set_cons_succ])
      ((with_reducible apply E_run); rfl; rfl; (intro w M; go_simp; (try go_ints); (try simp only [↓IntWalk.iteOmega]); (try with_reducible rfl)); simp only [Act.put, List.setIfInBounds_toArray, List.set_cons_zero, List.set_cons_succ])
      ((with_reducible apply E_run); rfl; rfl; (intro w M; exact run_loadCell (M.r0) rfl (show (chB v1 nilS 0 1 lim gv pr tvv (ad 240) ha7)[14]? = some lim by kernel_rfl) Salg.underlying89 rfl); simp only [Act.put, List.setIfInBounds_toArray, List.set_cons_zero, List.set_cons_succ])
      ((with_reducible apply E_run); rfl; rfl; (intro w M; go_simp; (try go_ints); (try simp only [↓IntWalk.iteOmega]); (try with_reducible rfl)); simp only [Act.put, List.setIfInBounds_toArray, List.set_cons_zero, List.set_cons_succ])
      ((with_reducible apply E_run); rfl; rfl; (intro w M; go_simp; (try go_ints); (try simp only [↓IntWalk.iteOmega]); (try with_reducible rfl)); simp only [Act.put, List.setIfInBounds_toArray, List.set_cons_zero, List.set_cons_succ])
      ((with_reducible apply E_run); rfl; rfl; (intro w M; go_simp; (try go_ints); (try simp only [↓IntWalk.iteOmega]); (try with_reducible rfl)); simp only [Act.put, List.setIfInBounds_toArray, List.set_cons_zero, List.set_cons_succ])
      ((with_reducible apply E_run); rfl; rfl; (intro w M; exact run_loadCell (M.r0) rfl (show (chB v1 nilS 0 1 lim gv pr tvv (ad 240) ha7)[17]? = some pr by kernel_rfl) Salg.underlying89 rfl); simp only [Act.put, List.setIfInBounds_toArray, List.set_cons_zero, List.set_cons_succ])
      refine E_call rfl Salg.func70 (by kernel_rfl) (by kernel_rfl) (args := [lim, pr]) rfl ?_
      intro w1 K M
      replace HLI := hid (HLI.out.kept K)
      replace HGV := hid (HGV.out.kept K)
      replace HPR := hid (HPR.out.kept K)
      replace HAC := hid ((AccD.still _).kept HAC.out K)
      replace HB2 := hid (HB2.out.kept K)
      clear K
      refine (mul_num lim pr 200000 0 _ HLI.out HPR.out (by decide) (by decide)).mono ?_
      rintro e w18 ⟨fe, rfl, xHFE, K⟩
      replace HLI := hid (HLI.out.kept K)
      replace HGV := hid (HGV.out.kept K)
      replace HPR := hid (HPR.out.kept K)
      replace HAC := hid ((AccD.still _).kept HAC.out K)
      replace HB2 := hid (HB2.out.kept K)
      have HFE := hid xHFE
      replace M := M.call K
      refine ⟨_, rfl, trivial, M, ?_⟩
      clear K xHFE
      simp only [Act.put, List.setIfInBounds_toArray, List.set_cons_zero, List.set_cons_succ]
      refine E_call rfl Salg.func88 (by kernel_rfl) (by kernel_rfl) (args := [bv2, fe]) rfl ?_
      intro w1 K M
      replace HLI := hid (HLI.out.kept K)
      replace HGV := hid (HGV.out.kept K)
      replace HPR := hid (HPR.out.kept K)
      replace HAC := hid ((AccD.still _).kept HAC.out K)
      replace HB2 := hid (HB2.out.kept K)
      replace HFE := hid (HFE.out.kept K)
      clear K
      refine (less_any bv2 fe B (200000 * 0) _ HB2.out HFE.out (Nat.lt_of_lt_of_le hB (by decide)) (by omega)).mono ?_
      rintro e w19 ⟨bb, rfl, xHBB, K⟩
      replace HLI := hid (HLI.out.kept K)
      replace HGV := hid (HGV.out.kept K)
      replace HPR := hid (HPR.out.kept K)
      replace HAC := hid ((AccD.still _).kept HAC.out K)
      replace HB2 := hid (HB2.out.kept K)
      replace HFE := hid (HFE.out.kept K)
      have HBB := hid xHBB
      replace M := M.call K
      refine ⟨_, rfl, trivial, M, ?_⟩
      clear K xHBB
      simp only [Act.put, List.setIfInBounds_toArray, List.set_cons_zero, List.set_cons_succ]
      refine E_nil ?_
      intro w20 K M
      replace HLI := hid (HLI.out.kept K)
      replace HGV := hid (HGV.out.kept K)
      replace HPR := hid (HPR.out.kept K)
      replace HAC := hid ((AccD.still _).kept HAC.out K)
      replace HB2 := hid (HB2.out.kept K)
      replace HFE := hid (HFE.out.kept K)
      replace HBB := hid (HBB.out.kept K)
      clear K
      clear HFE HB2
      refine S_seg 17 18 (by kernel_rfl) (by decide) ?_
      simp only [List.take_succ_cons, List.take_zero, List.drop_zero, List.drop_succ_cons, Nat.sub_zero, Nat.reduceSub]
      go_wp2_with fail
      refine (setBalance_D c _ v1 bb (B - 0) (dPut ⟨ad 240, 1, B, []⟩ false D) _ (ad 240) _ M.r0 (chB_nb _ _ _ _ _ _ _ _ _ _) (by kernel_rfl) HAC.out rfl smallAd240 HBB.out HD1.out Nat.one_ne_zero (by omega)).mono ?_
      rintro e w21 ⟨r, v2, rfl, K, k1, k2⟩
      rw [show (chB v1 nilS 0 1 lim gv pr tvv (ad 240) ha7).setIfInBounds 0 v2 = (chB v2 nilS 0 1 lim gv pr tvv (ad 240) ha7) from by kernel_rfl] at k1
      replace HLI := hid (HLI.out.keptC K M.r0 (chB_nb _ _ _ _ _ _ _ _ _ _))
      replace HGV := hid (HGV.out.keptC K M.r0 (chB_nb _ _ _ _ _ _ _ _ _ _))
      replace HPR := hid (HPR.out.keptC K M.r0 (chB_nb _ _ _ _ _ _ _ _ _ _))
      replace HAC := hid k2
      replace M := Mem.callPut (L1 := []) M (Or.inl (by simp)) K k1
      clear K k1 k2
      simp only [List.nil_append] at M
      clear HBB
      go_wp2_with fail
      refine S_done ?_
      have HWZ : Hid (AdsV _ nilS []) := AdsV.nil0 w21
      go_wp2_with fail
      refine S_region (by kernel_rfl) ?_
      replace HLI := hid (HLI.out.kept (Kept.refl [] _).drew)
      replace HGV := hid (HGV.out.kept (Kept.refl [] _).drew)
      replace HPR := hid (HPR.out.kept (Kept.refl [] _).drew)
      replace HAC := hid ((AccD.still _).kept HAC.out (Kept.refl [] _).drew)
      replace HWZ := hid (HWZ.out.kept (Kept.refl [] _).drew)
      refine E_stage 0 5 [0, 1, 2, 3, 4] (by kernel_rfl) M.drew ?_
      clear M
      simp only [List.filterMap_cons, List.filterMap_nil, List.getElem?_cons_zero, List.getElem?_cons_succ]
      ((with_reducible apply E_run); rfl; rfl; (intro w M; go_simp; (try go_ints); (try simp only [↓IntWalk.iteOmega]); (try with_reducible rfl)); simp only [Act.put, List.setIfInBounds_toArray, List.set_cons_zero, List.set_cons_succ])
      ((with_reducible apply E_run); rfl; rfl; (intro w M; go_simp; (try go_ints); (try simp only [↓IntWalk.iteOmega]); (try with_reducible rfl)); simp only [Act.put, List.setIfInBounds_toArray, List.set_cons_zero, List.set_cons_succ])
      ((with_reducible apply E_run); rfl; rfl; (intro w M; go_simp; (try go_ints); (try simp only [↓IntWalk.iteOmega]); (try with_reducible rfl)); simp only [Act.put, List.setIfInBounds_toArray, List.set_cons_zero, List.set_cons_succ])
      ((with_reducible apply E_run); rfl; rfl; (intro w M; go_simp; (try go_ints); (try simp only [↓IntWalk.iteOmega]); (try with_reducible rfl)); simp only [Act.put, List.setIfInBounds_toArray, List.set_cons_zero, List.set_cons_succ])
      ((with_reducible apply E_run (v := .agg ((ad 240).map n8).toArray)); rfl; rfl; (intro w M; exact run_loadX (n := 20) M.r3 rfl Salg.underlying45 rfl size45 (Nat.le_of_ble_eq_true (by kernel_rfl)) (show (txC v pb cd).toArray.extract 0 (0 + 20) = _ by kernel_rfl)); simp only [Act.put, List.setIfInBounds_toArray, List.set_cons_zero, List.set_cons_succ])
      refine E_nil ?_
      intro wq K M
      replace HLI := hid (HLI.out.kept K)
      replace HGV := hid (HGV.out.kept K)
      replace HPR := hid (HPR.out.kept K)
      replace HAC := hid ((AccD.still _).kept HAC.out K)
      replace HWZ := hid (HWZ.out.kept K)
      clear K
      refine S_seg 5 6 (by kernel_rfl) (by decide) ?_
      simp only [List.take_succ_cons, List.take_zero, List.drop_zero, List.drop_succ_cons, Nat.sub_zero, Nat.reduceSub]
      go_wp2_with fail
      refine (warm_any c 119 _ nilS [] (ad 240) _ M.r0 (by kernel_rfl) HWZ.out ⟨rfl, smallAd240⟩ (Nat.le_trans ((show ([] : List (List Nat)).length ≤ 0 from Nat.le_refl 0)) (by decide)) (by decide)).mono ?_
      rintro e w22 ⟨r, z1, rfl, K, k1, k2⟩
      rw [show (chB v2 nilS 0 1 lim gv pr tvv (ad 240) ha7).setIfInBounds 1 z1 = (chB v2 z1 0 1 lim gv pr tvv (ad 240) ha7) from by kernel_rfl] at k1
      replace HLI := hid (HLI.out.keptC K M.r0 (chB_nb _ _ _ _ _ _ _ _ _ _))
      replace HGV := hid (HGV.out.keptC K M.r0 (chB_nb _ _ _ _ _ _ _ _ _ _))
      replace HPR := hid (HPR.out.keptC K M.r0 (chB_nb _ _ _ _ _ _ _ _ _ _))
      replace HAC := hid ((AccD.still _).keptC HAC.out K M.r0 (chB_nb _ _ _ _ _ _ _ _ _ _) (.inl rfl))
      replace HWZ := hid k2
      replace M := Mem.callPut (L1 := []) M (Or.inl (by simp)) K k1
      clear K k1 k2
      simp only [List.nil_append] at M
      go_wp2_with fail
      refine S_done ?_
      go_wp2_with fail
      refine S_region (by kernel_rfl) ?_
      replace HLI := hid (HLI.out.kept (Kept.refl [] _).drew)
      replace HGV := hid (HGV.out.kept (Kept.refl [] _).drew)
      replace HPR := hid (HPR.out.kept (Kept.refl [] _).drew)
      replace HAC := hid ((AccD.still _).kept HAC.out (Kept.refl [] _).drew)
      replace HWZ := hid (HWZ.out.kept (Kept.refl [] _).drew)
      refine E_stage 0 8 [0, 1, 2, 3, 4, 5, 6, 7] (by kernel_rfl) M.drew ?_
      clear M
      simp only [List.filterMap_cons, List.filterMap_nil, List.getElem?_cons_zero, List.getElem?_cons_succ]
      ((with_reducible apply E_run); rfl; rfl; (intro w M; go_simp; (try go_ints); (try simp only [↓IntWalk.iteOmega]); (try with_reducible rfl)); simp only [Act.put, List.setIfInBounds_toArray, List.set_cons_zero, List.set_cons_succ])
      ((with_reducible apply E_run); rfl; rfl; (intro w M; go_simp; (try go_ints); (try simp only [↓IntWalk.iteOmega]); (try with_reducible rfl)); simp only [Act.put, List.setIfInBounds_toArray, List.set_cons_zero, List.set_cons_succ])
      ((with_reducible apply E_run); rfl; rfl; (intro w M; go_simp; (try go_ints); (try simp only [↓IntWalk.iteOmega]); (try with_reducible rfl)); simp only [Act.put, List.setIfInBounds_toArray, List.set_cons_zero, List.set_cons_succ])
      ((with_reducible apply E_run); rfl; rfl; (intro w M; go_simp; (try go_ints); (try simp only [↓IntWalk.iteOmega]); (try with_reducible rfl)); simp only [Act.put, List.setIfInBounds_toArray, List.set_cons_zero, List.set_cons_succ])
      ((with_reducible apply E_run); rfl; rfl; (intro w M; go_simp; (try go_ints); (try simp only [↓IntWalk.iteOmega]); (try with_reducible rfl)); simp only [Act.put, List.setIfInBounds_toArray, List.set_cons_zero, List.set_cons_succ])
      ((with_reducible apply E_run); rfl; rfl; (intro w M; go_simp; (try go_ints); (try simp only [↓IntWalk.iteOmega]); (try with_reducible rfl)); simp only [Act.put, List.setIfInBounds_toArray, List.set_cons_zero, List.set_cons_succ])
      ((with_reducible apply E_run); rfl; rfl; (intro w M; go_simp; (try go_ints); (try simp only [↓IntWalk.iteOmega]); (try with_reducible rfl)); simp only [Act.put, List.setIfInBounds_toArray, List.set_cons_zero, List.set_cons_succ])
      ((with_reducible apply E_run (v := .agg ((ad 192).map n8).toArray)); rfl; rfl; (intro w M; exact run_loadX (n := 20) M.r0 rfl Salg.underlying45 rfl size45 (Nat.le_of_ble_eq_true (by kernel_rfl)) (show (chB v2 z1 0 1 lim gv pr tvv (ad 240) ha7).extract 59 (59 + 20) = _ by kernel_rfl)); simp only [Act.put, List.setIfInBounds_toArray, List.set_cons_zero, List.set_cons_succ])
      refine E_nil ?_
      intro wq K M
      replace HLI := hid (HLI.out.kept K)
      replace HGV := hid (HGV.out.kept K)
      replace HPR := hid (HPR.out.kept K)
      replace HAC := hid ((AccD.still _).kept HAC.out K)
      replace HWZ := hid (HWZ.out.kept K)
      clear K
      refine S_seg 8 9 (by kernel_rfl) (by decide) ?_
      simp only [List.take_succ_cons, List.take_zero, List.drop_zero, List.drop_succ_cons, Nat.sub_zero, Nat.reduceSub]
      go_wp2_with fail
      refine (warm_any c 119 _ z1 (adWith [] (ad 240)) (ad 192) _ M.r0 (by kernel_rfl) HWZ.out ⟨rfl, (ad_small (by decide))⟩ (Nat.le_trans ((adW_le (show ([] : List (List Nat)).length ≤ 0 from Nat.le_refl 0))) (by decide)) (by decide)).mono ?_
      rintro e w23 ⟨r, z2, rfl, K, k1, k2⟩
      rw [show (chB v2 z1 0 1 lim gv pr tvv (ad 240) ha7).setIfInBounds 1 z2 = (chB v2 z2 0 1 lim gv pr tvv (ad 240) ha7) from by kernel_rfl] at k1
      replace HLI := hid (HLI.out.keptC K M.r0 (chB_nb _ _ _ _ _ _ _ _ _ _))
      replace HGV := hid (HGV.out.keptC K M.r0 (chB_nb _ _ _ _ _ _ _ _ _ _))
      replace HPR := hid (HPR.out.keptC K M.r0 (chB_nb _ _ _ _ _ _ _ _ _ _))
      replace HAC := hid ((AccD.still _).keptC HAC.out K M.r0 (chB_nb _ _ _ _ _ _ _ _ _ _) (.inl rfl))
      replace HWZ := hid k2
      replace M := Mem.callPut (L1 := []) M (Or.inl (by simp)) K k1
      clear K k1 k2
      simp only [List.nil_append] at M
      go_wp2_with fail
      refine S_done ?_
      go_wp2_with fail
      refine S_region (by kernel_rfl) ?_
      replace HLI := hid (HLI.out.kept (Kept.refl [] _).drew)
      replace HGV := hid (HGV.out.kept (Kept.refl [] _).drew)
      replace HPR := hid (HPR.out.kept (Kept.refl [] _).drew)
      replace HAC := hid ((AccD.still _).kept HAC.out (Kept.refl [] _).drew)
      replace HWZ := hid (HWZ.out.kept (Kept.refl [] _).drew)
      refine E_stage 0 4 [0, 1, 2, 3] (by kernel_rfl) M.drew ?_
      clear M
      simp only [List.filterMap_cons, List.filterMap_nil, List.getElem?_cons_zero, List.getElem?_cons_succ]
      ((with_reducible apply E_run); rfl; rfl; (intro w M; go_simp; (try go_ints); (try simp only [↓IntWalk.iteOmega]); (try with_reducible rfl)); simp only [Act.put, List.setIfInBounds_toArray, List.set_cons_zero, List.set_cons_succ])
      ((with_reducible apply E_run); rfl; rfl; (intro w M; go_simp; (try go_ints); (try simp only [↓IntWalk.iteOmega]); (try with_reducible rfl)); simp only [Act.put, List.setIfInBounds_toArray, List.set_cons_zero, List.set_cons_succ])
      ((with_reducible apply E_run); rfl; rfl; (intro w M; go_simp; (try go_ints); (try simp only [↓IntWalk.iteOmega]); (try with_reducible rfl)); simp only [Act.put, List.setIfInBounds_toArray, List.set_cons_zero, List.set_cons_succ])
      ((with_reducible apply E_run); rfl; rfl; (intro w M; exact run_loadAll M.r1 rfl Salg.underlying45 rfl size45); simp only [Act.put, List.setIfInBounds_toArray, List.set_cons_zero, List.set_cons_succ])
      refine E_nil ?_
      intro wq K M
      replace HLI := hid (HLI.out.kept K)
      replace HGV := hid (HGV.out.kept K)
      replace HPR := hid (HPR.out.kept K)
      replace HAC := hid ((AccD.still _).kept HAC.out K)
      replace HWZ := hid (HWZ.out.kept K)
      clear K
      refine S_seg 4 5 (by kernel_rfl) (by decide) ?_
      simp only [List.take_succ_cons, List.take_zero, List.drop_zero, List.drop_succ_cons, Nat.sub_zero, Nat.reduceSub]
      go_wp2_with fail
      refine (warm_any c 119 _ z2 (adWith (adWith [] (ad 240)) (ad 192)) ha7 _ M.r0 (by kernel_rfl) HWZ.out ⟨rfl, small_ha7⟩ (Nat.le_trans ((adW_le (adW_le (show ([] : List (List Nat)).length ≤ 0 from Nat.le_refl 0)))) (by decide)) (by decide)).mono ?_
      rintro e w24 ⟨r, z3, rfl, K, k1, k2⟩
      rw [show (chB v2 z2 0 1 lim gv pr tvv (ad 240) ha7).setIfInBounds 1 z3 = (chB v2 z3 0 1 lim gv pr tvv (ad 240) ha7) from by kernel_rfl] at k1
      replace HLI := hid (HLI.out.keptC K M.r0 (chB_nb _ _ _ _ _ _ _ _ _ _))
      replace HGV := hid (HGV.out.keptC K M.r0 (chB_nb _ _ _ _ _ _ _ _ _ _))
      replace HPR := hid (HPR.out.keptC K M.r0 (chB_nb _ _ _ _ _ _ _ _ _ _))
      replace HAC := hid ((AccD.still _).keptC HAC.out K M.r0 (chB_nb _ _ _ _ _ _ _ _ _ _) (.inl rfl))
      replace HWZ := hid k2
      replace M := Mem.callPut (L1 := []) M (Or.inl (by simp)) K k1
      clear K k1 k2
      simp only [List.nil_append] at M
      go_wp2_with fail
      refine S_done ?_
      go_wp2_with ((with_reducible apply W_buildV (d := 176) (v := .agg ((ad 4).map n8).toArray)); kernel_rfl; simp only [Act.put, List.setIfInBounds_toArray, List.set_cons_zero, List.set_cons_succ])
      refine (warm_any c 119 _ z3 (adWith (adWith (adWith [] (ad 240)) (ad 192)) ha7) (ad 4) _ M.r0 (by kernel_rfl) HWZ.out ⟨rfl, (ad_small (by decide))⟩ (Nat.le_trans ((adW_le (adW_le (adW_le (show ([] : List (List Nat)).length ≤ 0 from Nat.le_refl 0))))) (by decide)) (by decide)).mono ?_
      rintro e w25 ⟨r, z4, rfl, K, k1, k2⟩
      rw [show (chB v2 z3 0 1 lim gv pr tvv (ad 240) ha7).setIfInBounds 1 z4 = (chB v2 z4 0 1 lim gv pr tvv (ad 240) ha7) from by kernel_rfl] at k1
      replace HLI := hid (HLI.out.keptC K M.r0 (chB_nb _ _ _ _ _ _ _ _ _ _))
      replace HGV := hid (HGV.out.keptC K M.r0 (chB_nb _ _ _ _ _ _ _ _ _ _))
      replace HPR := hid (HPR.out.keptC K M.r0 (chB_nb _ _ _ _ _ _ _ _ _ _))
      replace HAC := hid ((AccD.still _).keptC HAC.out K M.r0 (chB_nb _ _ _ _ _ _ _ _ _ _) (.inl rfl))
      replace HWZ := hid k2
      replace M := Mem.callPut (L1 := []) M (Or.inl (by simp)) K k1
      clear K k1 k2
      simp only [List.nil_append] at M
      go_wp2_with ((with_reducible apply W_buildV (d := 181) (v := .agg ((ad 5).map n8).toArray)); kernel_rfl; simp only [Act.put, List.setIfInBounds_toArray, List.set_cons_zero, List.set_cons_succ])
      refine (warm_any c 119 _ z4 (adWith (adWith (adWith (adWith [] (ad 240)) (ad 192)) ha7) (ad 4)) (ad 5) _ M.r0 (by kernel_rfl) HWZ.out ⟨rfl, (ad_small (by decide))⟩ (Nat.le_trans ((adW_le (adW_le (adW_le (adW_le (show ([] : List (List Nat)).length ≤ 0 from Nat.le_refl 0)))))) (by decide)) (by decide)).mono ?_
      rintro e w26 ⟨r, z5, rfl, K, k1, k2⟩
      rw [show (chB v2 z4 0 1 lim gv pr tvv (ad 240) ha7).setIfInBounds 1 z5 = (chB v2 z5 0 1 lim gv pr tvv (ad 240) ha7) from by kernel_rfl] at k1
      replace HLI := hid (HLI.out.keptC K M.r0 (chB_nb _ _ _ _ _ _ _ _ _ _))
      replace HGV := hid (HGV.out.keptC K M.r0 (chB_nb _ _ _ _ _ _ _ _ _ _))
      replace HPR := hid (HPR.out.keptC K M.r0 (chB_nb _ _ _ _ _ _ _ _ _ _))
      replace HAC := hid ((AccD.still _).keptC HAC.out K M.r0 (chB_nb _ _ _ _ _ _ _ _ _ _) (.inl rfl))
      replace HWZ := hid k2
      replace M := Mem.callPut (L1 := []) M (Or.inl (by simp)) K k1
      clear K k1 k2
      simp only [List.nil_append] at M
      go_wp2_with ((with_reducible apply W_loadCell); rfl; exact M.r3; exact (show (txC v pb cd).toArray[173]? = some (nilS) by kernel_rfl); exact Salg.underlying47; rfl; simp only [Act.put, List.setIfInBounds_toArray, List.set_cons_zero, List.set_cons_succ])
      go_loopw [186] (fun iv wx => iv = .int .i64 0 ∧ Mem w [c] [(c, .cells (chB v2 z5 0 1 lim gv pr tvv (ad 240) ha7) 119 (0, 0)), (t8, .cells (ha7.map n8).toArray 45 (0, 0)), (t7, .cells (⟨ad 240, [nv2, bv2, cu0, nilS]⟩ : Ac).cells.toArray 128 (0, 0)), (tb, .cells (txC v pb cd).toArray 49 (0, 0))] wx ∧ NumV wx lim 200000 ∧ NumV wx gv G ∧ NumV wx pr 0 ∧ AccD (dPut ⟨ad 240, 1, B - 0, []⟩ false (dPut ⟨ad 240, 1, B, []⟩ false D)) wx v2 ∧ AdsV wx z5 laC) (fun _ _ => 0)
      case atStart => exact ⟨rfl, M, HLI.out, HGV.out, HPR.out, HAC.out, HWZ.out⟩
      case round =>
        clear M HLI HGV HPR HAC HWZ
        obtain ⟨rfl, M, y1, y2, y3, y4, y5⟩ := hrel
        have HLI := hid y1
        have HGV := hid y2
        have HPR := hid y3
        have HAC := hid y4
        have HWZ := hid y5
        clear y1 y2 y3 y4 y5
        go_wp2_with ((with_reducible apply W_stV (b := c) (o := 10) (v := nilS)); rfl; rfl; exact rfl; exact M.r0; exact size40; exact Nat.le_of_ble_eq_true (by kernel_rfl); intro wS K hr3; rw [show (chB v2 z5 0 1 lim gv pr tvv (ad 240) ha7).setIfInBounds 10 (nilS) = (chB v2 z5 0 1 lim gv pr tvv (ad 240) ha7) from by kernel_rfl] at hr3; replace HLI := hid (HLI.out.keptC K M.r0 (chB_nb _ _ _ _ _ _ _ _ _ _)); replace HGV := hid (HGV.out.keptC K M.r0 (chB_nb _ _ _ _ _ _ _ _ _ _)); replace HPR := hid (HPR.out.keptC K M.r0 (chB_nb _ _ _ _ _ _ _ _ _ _)); replace HAC := hid ((AccD.still _).keptC HAC.out K M.r0 (chB_nb _ _ _ _ _ _ _ _ _ _) (.inl rfl)); replace HWZ := hid (HWZ.out.keptC K M.r0 (by decide)); replace M := Mem.callPut (L1 := []) M (Or.inl (by simp)) K hr3; clear K hr3; simp only [List.nil_append] at M)
        refine S_region (by kernel_rfl) ?_
        replace HLI := hid (HLI.out.kept (Kept.refl [] _).drew)
        replace HGV := hid (HGV.out.kept (Kept.refl [] _).drew)
        replace HPR := hid (HPR.out.kept (Kept.refl [] _).drew)
        replace HAC := hid ((AccD.still _).kept HAC.out (Kept.refl [] _).drew)
        replace HWZ := hid (HWZ.out.kept (Kept.refl [] _).drew)
        refine E_float 0 12 [0, 1, 2, 3, 4, 5, 7, 8, 9, 6, 10] 11 17 _ (by kernel_rfl) ⟨⟨_, _, _, _, _, rfl, zero142, rfl⟩⟩ (by intro x hx; simp only [List.mem_singleton] at hx; subst hx; exact hcl) M.drew ?_
        clear M
        simp only [List.filterMap_cons, List.filterMap_nil, List.getElem?_cons_zero, List.getElem?_cons_succ]
        ((with_reducible apply E_run); rfl; rfl; (intro w M; go_simp; (try go_ints); (try simp only [↓IntWalk.iteOmega]); (try with_reducible rfl)); simp only [Act.put, List.setIfInBounds_toArray, List.set_cons_zero, List.set_cons_succ])
        ((with_reducible apply E_run); rfl; rfl; (intro w M; go_simp; (try go_ints); (try simp only [↓IntWalk.iteOmega]); (try with_reducible rfl)); simp only [Act.put, List.setIfInBounds_toArray, List.set_cons_zero, List.set_cons_succ])
        ((with_reducible apply E_run); rfl; rfl; (intro w M; go_simp; (try go_ints); (try simp only [↓IntWalk.iteOmega]); (try with_reducible rfl)); simp only [Act.put, List.setIfInBounds_toArray, List.set_cons_zero, List.set_cons_succ])
        ((with_reducible apply E_run); rfl; rfl; (intro w M; exact run_loadCell (M.r0) rfl (show (chB v2 z5 0 1 lim gv pr tvv (ad 240) ha7)[15]? = some gv by kernel_rfl) Salg.underlying89 rfl); simp only [Act.put, List.setIfInBounds_toArray, List.set_cons_zero, List.set_cons_succ])
        ((with_reducible apply E_run); rfl; rfl; (intro w M; go_simp; (try go_ints); (try simp only [↓IntWalk.iteOmega]); (try with_reducible rfl)); simp only [Act.put, List.setIfInBounds_toArray, List.set_cons_zero, List.set_cons_succ])
        ((with_reducible apply E_run); rfl; rfl; (intro w M; exact run_sliceArr (l := 0) (h := 32) (m := 32) rfl Salg.underlying46 size5 (by (first | exact Or.inl ⟨rfl, rfl⟩ | exact Or.inr ⟨_, _, _, rfl, rfl, by omega⟩)) (by (first | exact Or.inl ⟨rfl, rfl⟩ | exact Or.inr ⟨_, _, _, rfl, rfl, by omega⟩)) (by (first | exact Or.inl ⟨rfl, rfl⟩ | exact Or.inr ⟨_, _, _, rfl, rfl, by omega⟩)) (by first | exact Or.inl rfl | exact Or.inr rfl) (by omega) (by omega) (by omega) (by omega)); (try simp only [Nat.zero_add, Nat.sub_zero]); simp only [Act.put, List.setIfInBounds_toArray, List.set_cons_zero, List.set_cons_succ])
        ((with_reducible apply E_run); rfl; rfl; (intro w M; exact run_loadAll M.r1 rfl Salg.underlying45 rfl size45); simp only [Act.put, List.setIfInBounds_toArray, List.set_cons_zero, List.set_cons_succ])
        ((with_reducible apply E_run); rfl; rfl; (intro w M; go_simp; (try go_ints); (try simp only [↓IntWalk.iteOmega]); (try with_reducible rfl)); simp only [Act.put, List.setIfInBounds_toArray, List.set_cons_zero, List.set_cons_succ])
        ((with_reducible apply E_run (v := .agg ((ad 240).map n8).toArray)); rfl; rfl; (intro w M; exact run_loadX (n := 20) M.r3 rfl Salg.underlying45 rfl size45 (Nat.le_of_ble_eq_true (by kernel_rfl)) (show (txC v pb cd).toArray.extract 0 (0 + 20) = _ by kernel_rfl)); simp only [Act.put, List.setIfInBounds_toArray, List.set_cons_zero, List.set_cons_succ])
        refine E_call rfl Salg.func64 (by kernel_rfl) (by kernel_rfl) (args := [.slice (some ⟨tb, 75, none⟩) 32 32]) rfl ?_
        intro w1 K M
        replace HLI := hid (HLI.out.kept K)
        replace HGV := hid (HGV.out.kept K)
        replace HPR := hid (HPR.out.kept K)
        replace HAC := hid ((AccD.still _).kept HAC.out K)
        replace HWZ := hid (HWZ.out.kept K)
        clear K
        refine (fromBE_at tb 75 49 32 _ (padN v) _ M.r3 (tx_valC v pb cd) (Nat.le_of_ble_eq_true rfl) (padN_small hvl)).mono ?_
        rintro e w27 ⟨fv, rfl, xHFV, K⟩
        replace HLI := hid (HLI.out.kept K)
        replace HGV := hid (HGV.out.kept K)
        replace HPR := hid (HPR.out.kept K)
        replace HAC := hid ((AccD.still _).kept HAC.out K)
        replace HWZ := hid (HWZ.out.kept K)
        have HFV := hid xHFV
        replace M := M.call K
        refine ⟨_, rfl, K.mono (by simp), M, ?_⟩
        clear K xHFV
        simp only [Act.put, List.setIfInBounds_toArray, List.set_cons_zero, List.set_cons_succ]
        rw [padN_be] at HFV
        have HFV1 := hid HFV.out.one
        ((with_reducible apply E_run (v := .agg (frG 0 false gv fv nilS nilS ha7 (ad 240) wnil).toArray)); rfl; rfl; (intro w M; obtain ⟨p0, q0, s0, e0⟩ := HGV.out.slice; subst e0; obtain ⟨p1, q1, s1, e1⟩ := HFV.out.slice; subst e1; kernel_rfl); simp only [Act.put, List.setIfInBounds_toArray, List.set_cons_zero, List.set_cons_succ])
        refine E_nil ?_
        intro w28 K M
        replace HLI := hid (HLI.out.kept K)
        replace HGV := hid (HGV.out.kept K)
        replace HPR := hid (HPR.out.kept K)
        replace HAC := hid ((AccD.still _).kept HAC.out K)
        replace HWZ := hid (HWZ.out.kept K)
        replace HFV := hid (HFV.out.kept K)
        clear K
        intro t17 w29 K ht17 M
        replace HLI := hid (HLI.out.kept K)
        replace HGV := hid (HGV.out.kept K)
        replace HPR := hid (HPR.out.kept K)
        replace HAC := hid ((AccD.still _).kept HAC.out K)
        replace HWZ := hid (HWZ.out.kept K)
        replace HFV := hid (HFV.out.kept K)
        clear K
        simp only [Act.put, List.setIfInBounds_toArray, List.set_cons_zero, List.set_cons_succ]
        refine S_seg 12 13 (by kernel_rfl) (by decide) ?_
        simp only [List.take_succ_cons, List.take_zero, List.drop_zero, List.drop_succ_cons, Nat.sub_zero, Nat.reduceSub]
        have HGV1 := hid HGV.out.one
        go_wp2_with ((with_reducible apply W_storeK (b := t17) (vs := (frG 0 false gv fv nilS nilS ha7 (ad 240) wnil).toArray)); rfl; rfl; exact M.r0; exact size142; rfl; exact frG_oneNL HGV1.out HFV1.out rfl rfl; intro w30 K hr3; replace HLI := hid (HLI.out.keptC K M.r0 (not_bytes_at (i := 3) (p := none) (n := 0) (m := 0) (by kernel_rfl))); replace HGV := hid (HGV.out.keptC K M.r0 (not_bytes_at (i := 3) (p := none) (n := 0) (m := 0) (by kernel_rfl))); replace HPR := hid (HPR.out.keptC K M.r0 (not_bytes_at (i := 3) (p := none) (n := 0) (m := 0) (by kernel_rfl))); replace HAC := hid ((AccD.still _).keptC HAC.out K M.r0 (not_bytes_at (i := 3) (p := none) (n := 0) (m := 0) (by kernel_rfl)) (.inr rfl)); replace HWZ := hid (HWZ.out.keptC K M.r0 (by decide)); replace HFV := hid (HFV.out.keptC K M.r0 (not_bytes_at (i := 3) (p := none) (n := 0) (m := 0) (by kernel_rfl))); replace M := Mem.callPut (L1 := []) M (Or.inr ht17) K hr3; clear K hr3; simp only [List.nil_append] at M)
        refine S_done ?_
        go_wp2_with (first
          | ((with_reducible apply W_loadCell); rfl; exact M.r4; exact (show (txC v pb cd).toArray[40]? = some (.bool true) by kernel_rfl); exact Salg.underlying4; rfl; simp only [Act.put, List.setIfInBounds_toArray, List.set_cons_zero, List.set_cons_succ])
          | ((with_reducible apply W_stV (b := t17) (o := 0) (v := .int .u8 1)); rfl; rfl; exact rfl; exact M.r0; exact size5; exact Nat.le_of_ble_eq_true (by kernel_rfl); intro wS K hr3; replace HLI := hid (HLI.out.keptC K M.r0 (not_bytes_at (i := 3) (p := none) (n := 0) (m := 0) (by kernel_rfl))); replace HGV := hid (HGV.out.keptC K M.r0 (not_bytes_at (i := 3) (p := none) (n := 0) (m := 0) (by kernel_rfl))); replace HPR := hid (HPR.out.keptC K M.r0 (not_bytes_at (i := 3) (p := none) (n := 0) (m := 0) (by kernel_rfl))); replace HAC := hid ((AccD.still _).keptC HAC.out K M.r0 (not_bytes_at (i := 3) (p := none) (n := 0) (m := 0) (by kernel_rfl)) (.inr rfl)); replace HWZ := hid (HWZ.out.keptC K M.r0 (by decide)); replace HFV := hid (HFV.out.keptC K M.r0 (not_bytes_at (i := 3) (p := none) (n := 0) (m := 0) (by kernel_rfl))); rw [show ((frG 0 false gv fv nilS nilS ha7 (ad 240) wnil).toArray).setIfInBounds 0 (.int .u8 1) = (frG 1 false gv fv nilS nilS ha7 (ad 240) wnil).toArray from by kernel_rfl] at hr3; replace M := Mem.callPut (L1 := []) M (Or.inr ht17) K hr3; clear K hr3; simp only [List.nil_append] at M)
          | ((with_reducible apply W_loadCell); rfl; exact M.r4; exact (show (txC v pb cd).toArray[107]? = some ((Value.slice (some ⟨pb, 0, none⟩) 19 cd)) by kernel_rfl); exact Salg.underlying40; rfl; simp only [Act.put, List.setIfInBounds_toArray, List.set_cons_zero, List.set_cons_succ]))
        refine (bytesOf_all (Value.slice (some ⟨pb, 0, none⟩) 19 cd) probeL _ (HDVX.out.keptN M.kept HX.out)).mono ?_
        rintro e w33 ⟨cw, rfl, xHCW, K⟩
        replace HLI := hid (HLI.out.kept K)
        replace HGV := hid (HGV.out.kept K)
        replace HPR := hid (HPR.out.kept K)
        replace HAC := hid ((AccD.still _).kept HAC.out K)
        replace HWZ := hid (HWZ.out.kept K)
        replace HFV := hid (HFV.out.kept K)
        have HCW := hid xHCW
        replace M := M.call K
        clear K xHCW
        have HCW1 := hid HCW.out.one
        go_wp2_with (first
          | ((with_reducible apply W_stV (b := t17) (o := 10) (v := cw)); rfl; rfl; exact HCW1.out; exact M.r0; exact size40; exact Nat.le_of_ble_eq_true (by kernel_rfl); intro wS K hr3; replace HLI := hid (HLI.out.keptC K M.r0 (not_bytes_at (i := 3) (p := none) (n := 0) (m := 0) (by kernel_rfl))); replace HGV := hid (HGV.out.keptC K M.r0 (not_bytes_at (i := 3) (p := none) (n := 0) (m := 0) (by kernel_rfl))); replace HPR := hid (HPR.out.keptC K M.r0 (not_bytes_at (i := 3) (p := none) (n := 0) (m := 0) (by kernel_rfl))); replace HAC := hid ((AccD.still _).keptC HAC.out K M.r0 (not_bytes_at (i := 3) (p := none) (n := 0) (m := 0) (by kernel_rfl)) (.inr rfl)); replace HWZ := hid (HWZ.out.keptC K M.r0 (by decide)); replace HFV := hid (HFV.out.keptC K M.r0 (not_bytes_at (i := 3) (p := none) (n := 0) (m := 0) (by kernel_rfl))); replace HCW := hid (HCW.out.keptC K M.r0 (not_bytes_at (i := 3) (p := none) (n := 0) (m := 0) (by kernel_rfl))); rw [show ((frG 1 false gv fv nilS nilS ha7 (ad 240) wnil).toArray).setIfInBounds 10 (cw) = (frG 1 false gv fv cw nilS ha7 (ad 240) wnil).toArray from by kernel_rfl] at hr3; replace M := Mem.callPut (L1 := []) M (Or.inr ht17) K hr3; clear K hr3; simp only [List.nil_append] at M)
          | ((with_reducible apply W_loadAll); rfl; exact M.r2; exact Salg.underlying45; rfl; exact size45; simp only [Act.put, List.setIfInBounds_toArray, List.set_cons_zero, List.set_cons_succ]))
        refine (taken_M c _ v2 (dPut ⟨ad 240, 1, B - 0, []⟩ false (dPut ⟨ad 240, 1, B, []⟩ false D)) ha7 _ M.r1 (by kernel_rfl) HAC.out rfl HDN.out).mono ?_
        rintro e w35 ⟨rfl, K⟩
        replace HLI := hid (HLI.out.kept K)
        replace HGV := hid (HGV.out.kept K)
        replace HPR := hid (HPR.out.kept K)
        replace HAC := hid ((AccD.still _).kept HAC.out K)
        replace HWZ := hid (HWZ.out.kept K)
        replace HFV := hid (HFV.out.kept K)
        replace HCW := hid (HCW.out.kept K)
        replace M := M.call K
        clear K 
        go_wp2_with (first
          | ((with_reducible apply W_stV (b := c) (o := 11) (v := .int .u8 1)); rfl; rfl; exact rfl; exact M.r1; exact size5; exact Nat.le_of_ble_eq_true (by kernel_rfl); intro wS K hr3; rw [show (chB v2 z5 0 1 lim gv pr tvv (ad 240) ha7).setIfInBounds 11 (.int .u8 1) = (chB v2 z5 1 1 lim gv pr tvv (ad 240) ha7) from by kernel_rfl] at hr3; replace HLI := hid (HLI.out.keptC K M.r1 (chB_nb _ _ _ _ _ _ _ _ _ _)); replace HGV := hid (HGV.out.keptC K M.r1 (chB_nb _ _ _ _ _ _ _ _ _ _)); replace HPR := hid (HPR.out.keptC K M.r1 (chB_nb _ _ _ _ _ _ _ _ _ _)); replace HAC := hid ((AccD.still _).keptC HAC.out K M.r1 (chB_nb _ _ _ _ _ _ _ _ _ _) (.inl rfl)); replace HWZ := hid (HWZ.out.keptC K M.r1 (by decide)); replace HFV := hid (HFV.out.keptC K M.r1 (chB_nb _ _ _ _ _ _ _ _ _ _)); replace HCW := hid (HCW.out.keptC K M.r1 (chB_nb _ _ _ _ _ _ _ _ _ _)); replace M := Mem.callPut (L1 := [(t17, _)]) M (Or.inl (by simp)) K hr3; clear K hr3; simp only [List.nil_append, List.cons_append] at M)
          | ((with_reducible apply W_loadAll); rfl; exact M.r0; exact Salg.underlying142; rfl; exact (by kernel_rfl); simp only [Act.put, List.setIfInBounds_toArray, List.set_cons_zero, List.set_cons_succ]))
        obtain ⟨EE, hEE⟩ : ∃ EE : XEnv, EE = ⟨v2, lim, gv, pr, tvv, nilS, ha7⟩ := ⟨_, rfl⟩
        have HZ2 := M.r1
        rw [← chB_NC] at HZ2
        have HC := hid (show ChY _ c ⟨v2, lim, gv, pr, tvv, nilS, ha7⟩ nilS nilS laC from ⟨z5, HZ2, HWZ.out⟩)
        clear HZ2
        have HAC2 := hid (show AccD (dPut ⟨ad 240, 1, B - 0, []⟩ false (dPut ⟨ad 240, 1, B, []⟩ false D)) _ (XEnv.vz ⟨v2, lim, gv, pr, tvv, nilS, ha7⟩) from HAC.out)
        rw [← hEE] at HC HAC2
        have hla : laC.length ≤ 5 := by decide
        have HXE : Hid (Hard [c] _) := hard1 M.r1 (.inl rfl) (chB_nb _ _ _ _ _ _ _ _ _ _)
        have hmd : EE.md = nilS := by rw [hEE]
        have HEE := hid hEE
        clear hEE
        refine (enterC0 c 0 0 1 240 ha7 false #[] _ EE nilS gv fv cw nilS (AccD (dPut ⟨ha7, 1, 0, []⟩ false (dPut ⟨ad 240, 1, B - 0, []⟩ false (dPut ⟨ad 240, 1, B, []⟩ false D)))) _ HC.out (AccD.still _) HGV1.out HFV1.out HCW1.out rfl (by decide) (fun w => creates_one w) rfl small_ha7 hmd (AccD (dPut ⟨ha7, 1, 0, []⟩ false (dPut ⟨ad 240, 1, B - 0, []⟩ false (dPut ⟨ad 240, 1, B, []⟩ false D)))) (AccD.still _) (fun w' K' => clone_D c EE _ nilS _ [] (dPut ⟨ad 240, 1, B - 0, []⟩ false (dPut ⟨ad 240, 1, B, []⟩ false D)) w' (HC.out.kept K') ((AccD.still _).kept HAC2.out K') h02 (by omega) (adWith_pos _ _) (by unfold laC at hla ⊢; omega) (.inl hmd)) (fun w' n1 K' hn1 => setNonce_Y c EE _ nilS n1 _ (dPut ⟨ad 240, 1, B - 0, []⟩ false (dPut ⟨ad 240, 1, B, []⟩ false D)) ha7 w' (HC.out.kept K') ((AccD.still _).kept HAC2.out K') rfl small_ha7 hn1 HDN.out (by omega)) (fun w' vz1 md K' hC' hA' => (move_Z c 0 (ad 240) ha7 _ _ nilS fv _ (dPut ⟨ha7, 1, 0, []⟩ false (dPut ⟨ad 240, 1, B - 0, []⟩ false (dPut ⟨ad 240, 1, B, []⟩ false D))) ds0 w' hC' hA' rfl rfl smallAd240 small_ha7 HDS.out hsB (Nat.zero_le _) (HV0.out ▸ HFV.out.keptN K' HXE.out) rfl).mono fun e w'' ⟨r, he, K3⟩ => ⟨r, vz1, he, hC'.kept K3, (AccD.still _).kept hA' K3, K3.mono (by simp)⟩)).mono ?_
        rintro e w36 ⟨r36, fb, cap, cur, a0, a1, a3, a6, vz', md, rfl, y0, y1, y2, y3, y4, y5, y6, y7, y8a, y8b, y8c, y8d, y9, yk⟩
        have hX2 : Hard [c] _ := hard1 M.r1 (.inl rfl) (chB_nb _ _ _ _ _ _ _ _ _ _)
        have Y1 := hid y1
        have Y2 := hid y2
        have Y4 := hid y4
        have Y9 := hid y9
        have YK := hid yk
        have G1 := hid (HGV.out.keptN yk hX2)
        have G2 := hid (HFV.out.keptN yk hX2)
        have G3 := hid (HCW.out.keptN yk hX2)
        have G4 := hid (HLI.out.keptN yk hX2)
        have G5 := hid (HPR.out.keptN yk hX2)
        have HMK := hid M.kept
        clear y1 y2 y4 y9 yk hX2 M
        go_wp2_with fail
        go_ret
        have hE := HEE.out
        refine ⟨fb, cap, G, cur, { EE with vz := vz', md := md }, gv, fv, cw, nilS, a0, a1, a3, a6, rfl, Y1.out, Y2.out, Nat.le_trans HMK.out.size y3, Y4.out, y5, y6, y7, ⟨y8a, y8b, y8c, y8d⟩, HGG.out.1, HGG.out.2, G1.out, G2.out, G3.out, NatV.nil _, Y9.out, y0, by rw [hE], by rw [hE], by rw [hE]; exact G4.out, by rw [hE]; exact G5.out, by rw [hE]; exact HGV1.out, HMK.out.trans YK.out⟩

set_option maxHeartbeats 4000000 in
set_option maxRecDepth 100000 in
theorem beginC_v (c v pb cd tt : Nat) (ccs : List Nat) (va tvv : Value) (D : List AD) (B : Nat) (ds0 d2 : AD) (w : World) (hc : w.heap[c]? = some (.cells (ch0 va tvv) 119 (0, 0))) (hv : AccD D w va) (hd : D.find? (fun x => x.adr == ad 240) = some ⟨ad 240, 0, B, []⟩) (hvB : v < B) (hB : B < 256 ^ 100) (hvl : v < 256) (hdv : NatV w (Value.slice (some ⟨pb, 0, none⟩) 19 cd) probeL) (hpr : w.heap[pb]? = some (R8 tt ccs)) (hpp : probeL <+: ccs) (hd1 : (dPut ⟨ad 240, 1, B, []⟩ false D).find? (fun x => x.adr == ad 240) = some ⟨ad 240, 1, B, []⟩) (hds : (dPut ⟨ha7, 1, 0, []⟩ false (dPut ⟨ad 240, 1, B - 0, []⟩ false (dPut ⟨ad 240, 1, B, []⟩ false D))).find? (fun x => x.adr == ad 240) = some ds0) (hsB : ds0.B < 256 ^ 100) (hsV : v ≤ ds0.B) (hdn : (dPut ⟨ad 240, 1, B - 0, []⟩ false (dPut ⟨ad 240, 1, B, []⟩ false D)).find? (fun x => x.adr == ha7) = none) (hl : D.length ≤ 15) (h0 : 0 < D.length) (hl1 : (dPut ⟨ad 240, 1, B, []⟩ false D).length ≤ 15) (hlN : (dPut ⟨ha7, 1, 0, []⟩ false (dPut ⟨ad 240, 1, B - 0, []⟩ false (dPut ⟨ad 240, 1, B, []⟩ false D))).length ≤ 15) (hl2 : (dPut ⟨ad 240, 1, B - 0, []⟩ false (dPut ⟨ad 240, 1, B, []⟩ false D)).length ≤ 15) (h02 : 0 < (dPut ⟨ad 240, 1, B - 0, []⟩ false (dPut ⟨ad 240, 1, B, []⟩ false D)).length) (hv0 : v ≠ 0) (hN1 : ds0.N ≠ 0) (hN2 : d2.N ≠ 0) (hd2 : (dPut ⟨ad 240, ds0.N, ds0.B - v, ds0.ds⟩ false (dPut ⟨ha7, 1, 0, []⟩ false (dPut ⟨ad 240, 1, B - 0, []⟩ false (dPut ⟨ad 240, 1, B, []⟩ false D)))).find? (fun x => x.adr == ha7) = some d2) (hB2 : d2.B < 256 ^ 100) (hll1 : (dPut ⟨ad 240, ds0.N, ds0.B - v, ds0.ds⟩ false (dPut ⟨ha7, 1, 0, []⟩ false (dPut ⟨ad 240, 1, B - 0, []⟩ false (dPut ⟨ad 240, 1, B, []⟩ false D)))).length ≤ 100) (htv : tvv.oneCell' = true) :
    Calls Salg.prog 16 #[.pointer (some ⟨c, 0, none⟩), .agg (txC v pb cd).toArray] w fun e w' => ∃ (fb cap G : Nat) (cur : Array Value) (E : XEnv) (gv fv cw iu a0 a1 a3 a6 : Value), e = .returned (.int .u8 0) ∧ ChY w' c E (.slice (some ⟨fb, 0, none⟩) 1 cap) nilS laC ∧ w'.heap[fb]? = some (.cells cur 142 (0, 0)) ∧ w.heap.size ≤ fb ∧ (∀ k, k < 60 → cur[0 + k]? = (frG 1 false gv fv cw iu ha7 (ad 240) (wrow5 a0 a1 a3 a6))[k]?) ∧ cur.size = cap * 60 ∧ cap ≤ maxLen ∧ 1 ≤ cap ∧ (a0.oneCell' = true ∧ a1.oneCell' = true ∧ a3.oneCell' = true ∧ a6.oneCell' = true) ∧ 146600 ≤ G ∧ G ≤ 147000 ∧ NumV w' gv G ∧ NumV w' fv v ∧ NatV w' cw probeL ∧ NatV w' iu [] ∧ AccD (dPut ⟨ha7, d2.N, d2.B + v, d2.ds⟩ false (dPut ⟨ad 240, ds0.N, ds0.B - v, ds0.ds⟩ false (dPut ⟨ha7, 1, 0, []⟩ false (dPut ⟨ad 240, 1, B - 0, []⟩ false (dPut ⟨ad 240, 1, B, []⟩ false D))))) w' E.vz ∧ E.md.oneCell' = true ∧ E.ma = ha7 ∧ E.tv = tvv ∧ NumV w' E.lim 200000 ∧ NumV w' E.pr 0 ∧ E.gv.oneCell' = true ∧ Kept [c] w w' := by
  have M := Mem.start w []
  obtain ⟨l, q0, q00⟩ := hv
  obtain ⟨nv2, bv2, cu0, q1, q2, q3, q4⟩ := q00.find hd
  have HV : Hid (AccD D w va) := ⟨l, q0, q00⟩
  have HACC : Hid (∀ w', Kept [] w w' → Calls Salg.prog 85 #[.pointer (some ⟨c, 0, none⟩), A8 (ad 240)] w' fun e w'' => e = .returned (.agg (⟨ad 240, [nv2, bv2, cu0, nilS]⟩ : Ac).cells.toArray) ∧ Kept [] w' w'') := by
    intro w' K
    have h := account_any c 119 _ va l (ad 240) w' (K.row hc (by simp)) (ch0_0 _ _) (q0.kept K) rfl
    rw [q1] at h
    exact h
  have HN2 := hid q2
  have HB2 := hid q3
  have HC1 := hid q4.one
  have HD := hid hd
  have HV0 := hid hv0
  have HN1 := hid hN1
  have HN2d := hid hN2
  have HDVX := hid hdv
  have HPRW := hid hpr
  have HPPW := hid hpp
  have hpbc : pb ∉ [c] := by
    intro h
    simp at h
    subst h
    rw [hc] at hpr
    exact (chB_nb va nilS 0 0 nilS nilS nilS tvv z20 z20) tt ccs (Option.some.inj hpr)
  have HD1 := hid hd1
  have HDS := hid hds
  have HDN := hid hdn
  have HD2 := hid hd2
  have hcl : c < w.heap.size := lt_of_row hc
  have hln := q00.len
  obtain ⟨n, hn⟩ : ∃ n, n = l.length := ⟨_, rfl⟩
  have hn15 : n ≤ 15 := by omega
  obtain ⟨g, cap0, cur0, eva, hg, hgx⟩ := q0.at (i := 0) (by omega)
  have HAT : Hid (∀ i (hi : i < n), ∃ (b0 b1 b2 b3 b4 b5 b6 b7 b8 b9 b10 b11 b12 b13 b14 b15 b16 b17 b18 b19 : Nat) (nv bv cu : Value), i * 24 + 24 ≤ cur0.size ∧ cur0.extract (i * 24) (i * 24 + 24) = (⟨[b0, b1, b2, b3, b4, b5, b6, b7, b8, b9, b10, b11, b12, b13, b14, b15, b16, b17, b18, b19], [nv, bv, cu, nilS]⟩ : Ac).cells.toArray ∧ nv.oneCell' = true ∧ bv.oneCell' = true ∧ cu.oneCell' = true) := by
    intro i hi
    obtain ⟨g', cap', cur', e1, e2, e3, e4⟩ := q0.at (i := i) (by omega)
    rw [eva] at e1
    cases e1
    rw [hg] at e2
    cases e2
    have hok := q0.ok l[i] (List.getElem_mem (by omega))
    obtain ⟨nv, bv, cu, N, B', ds, p1, p2, p3, p4⟩ := q00.all l[i] (List.getElem_mem (by omega))
    obtain ⟨b0, b1, b2, b3, b4, b5, b6, b7, b8, b9, b10, b11, b12, b13, b14, b15, b16, b17, b18, b19, eb⟩ := list20 hok.ha
    refine ⟨b0, b1, b2, b3, b4, b5, b6, b7, b8, b9, b10, b11, b12, b13, b14, b15, b16, b17, b18, b19, nv, bv, cu, e3, ?_, p2.one, p3.one, p4.one⟩
    rw [e4]
    have : l[i] = (⟨[b0, b1, b2, b3, b4, b5, b6, b7, b8, b9, b10, b11, b12, b13, b14, b15, b16, b17, b18, b19], [nv, bv, cu, nilS]⟩ : Ac) := by
      cases h : l[i] with
      | mk a r => rw [h] at eb p1; simp only at eb p1; rw [eb, p1]
    rw [this]
  rw [← hn] at eva
  have hX := hard1 hc (.inl rfl) (chB_nb va nilS 0 0 nilS nilS nilS tvv z20 z20)
  have HX := hid hX
  have hgc : g ∉ [c] := row_ne hc hg (by intro h; injection h with _ h _; exact absurd h (by decide))
  clear hgx hd hdv hpr hpp hd1 hds hdn hv0 hd2 hN1 hN2 q0 q00 q1 q2 q3 q4 hX hn
  subst eva
  go_enter Salg.func16, Salg.ntmps16
  go_wp2_with (first
    | ((with_reducible apply L_box M); rfl; clear M; intro tb w1 htb M; simp only [Act.put, List.setIfInBounds_toArray, List.set_cons_zero, List.set_cons_succ])
    | ((with_reducible apply W_loadAll); rfl; exact M.r0; exact Salg.underlying49; rfl; exact size49C v pb cd; simp only [Act.put, List.setIfInBounds_toArray, List.set_cons_zero, List.set_cons_succ]))
  refine (verdictC c v pb cd _ tvv D B _ (M.kept.row hc (by simp)) ((AccD.still D).kept HV.out M.kept) HD.out hvB hvl tt ccs (M.kept.row HPRW.out (by simp)) HPPW.out).mono ?_
  rintro e w2 ⟨rfl, K⟩
  replace M := M.call K
  clear K
  go_wp2_with fail
  refine S_region (by kernel_rfl) ?_
  refine E_float 0 7 [0, 1, 2, 3, 4, 5] 6 7 _ (by kernel_rfl) ⟨⟨_, _, _, _, _, rfl, zero128, rfl⟩⟩ (by simp) M.drew ?_
  clear M
  simp only [List.filterMap_cons, List.filterMap_nil, List.getElem?_cons_zero, List.getElem?_cons_succ]
  ((with_reducible apply E_run); rfl; rfl; (intro w M; go_simp; (try go_ints); (try simp only [↓IntWalk.iteOmega]); (try with_reducible rfl)); simp only [Act.put, List.setIfInBounds_toArray, List.set_cons_zero, List.set_cons_succ])
  ((with_reducible apply E_run); rfl; rfl; (intro w M; go_simp; (try go_ints); (try simp only [↓IntWalk.iteOmega]); (try with_reducible rfl)); simp only [Act.put, List.setIfInBounds_toArray, List.set_cons_zero, List.set_cons_succ])
  ((with_reducible apply E_run); rfl; rfl; (intro w M; go_simp; (try go_ints); (try simp only [↓IntWalk.iteOmega]); (try with_reducible rfl)); simp only [Act.put, List.setIfInBounds_toArray, List.set_cons_zero, List.set_cons_succ])
  ((with_reducible apply E_run); rfl; rfl; (intro w M; go_simp; (try go_ints); (try simp only [↓IntWalk.iteOmega]); (try with_reducible rfl)); simp only [Act.put, List.setIfInBounds_toArray, List.set_cons_zero, List.set_cons_succ])
  ((with_reducible apply E_run (v := .agg ((ad 240).map n8).toArray)); rfl; rfl; (intro w M; exact run_loadX (n := 20) M.r0 rfl Salg.underlying45 rfl size45 (Nat.le_of_ble_eq_true (by kernel_rfl)) (show (txC v pb cd).toArray.extract 0 (0 + 20) = _ by kernel_rfl)); simp only [Act.put, List.setIfInBounds_toArray, List.set_cons_zero, List.set_cons_succ])
  refine E_call rfl Salg.func85 (by kernel_rfl) (by kernel_rfl) (args := [.pointer (some ⟨c, 0, none⟩), A8 (ad 240)]) rfl ?_
  intro w1 K M
  clear K
  refine (HACC.out _ M.kept).mono ?_
  rintro e w3 ⟨rfl, K⟩
  replace M := M.call K
  refine ⟨_, rfl, K.mono (by simp), M, ?_⟩
  clear K
  simp only [Act.put, List.setIfInBounds_toArray, List.set_cons_zero, List.set_cons_succ]
  refine E_nil ?_
  intro w4 K M
  clear K
  intro t7 w5 K ht7 M
  clear K
  simp only [Act.put, List.setIfInBounds_toArray, List.set_cons_zero, List.set_cons_succ]
  refine S_seg 7 8 (by kernel_rfl) (by decide) ?_
  simp only [List.take_succ_cons, List.take_zero, List.drop_zero, List.drop_succ_cons, Nat.sub_zero, Nat.reduceSub]
  have HONE : Hid (∀ u ∈ (⟨ad 240, [nv2, bv2, cu0, nilS]⟩ : Ac).cells.toArray.toList, u.oneCell' = true) := by
    apply oneL
    have e : ((⟨ad 240, [nv2, bv2, cu0, nilS]⟩ : Ac).cells.all fun u => u.oneCell') = (nv2.oneCell' && (bv2.oneCell' && (cu0.oneCell' && true))) := by kernel_rfl
    rw [e, HN2.out.one, HB2.out.one, HC1.out]
    rfl
  go_wp2_with ((with_reducible apply W_storeK (b := t7) (vs := (⟨ad 240, [nv2, bv2, cu0, nilS]⟩ : Ac).cells.toArray)); rfl; rfl; exact M.r0; exact size128; rfl; exact HONE.out; intro w6 K hr3; replace M := Mem.callPut (L1 := []) M (Or.inr ht7) K hr3; clear K hr3; simp only [List.nil_append] at M)
  refine S_done ?_
  have hct7 : c ≠ t7 := by omega
  have hctb : c ≠ tb := by omega
  go_wp2_with (first
    | ((with_reducible apply W_loadX (n := 20) (vs := ((ad 1).map n8).toArray)); rfl; exact M.r1; exact Salg.underlying45; rfl; exact size45; exact Nat.le_of_ble_eq_true (by kernel_rfl); exact (show (txC v pb cd).toArray.extract 20 (20 + 20) = _ by kernel_rfl); simp only [Act.put, List.setIfInBounds_toArray, List.set_cons_zero, List.set_cons_succ])
    | ((with_reducible apply L_allocA (d := 8) M); exact zero45; clear M; intro t8 w7 ht8 M; simp only [Act.put, List.setIfInBounds_toArray, List.set_cons_zero, List.set_cons_succ])
    | ((with_reducible apply W_storeK (b := t8) (vs := ((ad 1).map n8).toArray)); rfl; rfl; exact M.r0; exact size45; rfl; exact one8 _; intro w8 K hr3; replace M := Mem.callPut (L1 := []) M (Or.inr ht8) K hr3; clear K hr3; simp only [List.nil_append] at M; have hct8 : c ≠ t8 := (by omega); have hcr : w8.heap[c]? = some (.cells (chB (.slice (some ⟨g, 0, none⟩) n cap0) nilS 0 0 nilS nilS nilS tvv z20 z20) 119 (0, 0)) := M.kept.row hc (by simp); replace M := M.into hcr (by intro p hp; simp only [List.mem_cons, List.not_mem_nil, or_false] at hp; rcases hp with rfl | rfl | rfl; exact hct8; exact hct7; exact hctb); clear hcr)
    | ((with_reducible apply W_stP (b := c) (o := 39) (n := 20) (v := .agg (z20.map n8).toArray) (rs := (chB (.slice (some ⟨g, 0, none⟩) n cap0) nilS 0 0 nilS nilS nilS tvv z20 z20))); rfl; exact congrArg Value.agg (by kernel_rfl); exact M.r0; exact size45; kernel_rfl; exact oneL rfl; exact Nat.le_of_ble_eq_true (by kernel_rfl); kernel_rfl; intro wS K hr3; replace M := Mem.callPut (L1 := []) M (Or.inl (by simp)) K hr3; clear K hr3; simp only [List.nil_append] at M)
    | ((with_reducible apply W_stV (b := c) (o := 9) (v := nilS)); rfl; rfl; exact rfl; exact M.r0; exact size115; exact Nat.le_of_ble_eq_true (by kernel_rfl); intro wS K hr3; rw [show (chB (.slice (some ⟨g, 0, none⟩) n cap0) nilS 0 0 nilS nilS nilS tvv z20 z20).setIfInBounds 9 (nilS) = (chB (.slice (some ⟨g, 0, none⟩) n cap0) nilS 0 0 nilS nilS nilS tvv z20 z20) from by kernel_rfl] at hr3; replace M := Mem.callPut (L1 := []) M (Or.inl (by simp)) K hr3; clear K hr3; simp only [List.nil_append] at M)
    | ((with_reducible apply W_loadCell); rfl; exact M.r3; exact (show (txC v pb cd).toArray[40]? = some (.bool true) by kernel_rfl); exact Salg.underlying4; rfl; simp only [Act.put, List.setIfInBounds_toArray, List.set_cons_zero, List.set_cons_succ])
    | ((with_reducible apply W_loadX (o := 0) (n := 20) (vs := ((ad 240).map n8).toArray)); rfl; exact M.r3; exact Salg.underlying45; rfl; exact size45; exact Nat.le_of_ble_eq_true (by kernel_rfl); exact (show (txC v pb cd).toArray.extract 0 (0 + 20) = _ by kernel_rfl); simp only [Act.put, List.setIfInBounds_toArray, List.set_cons_zero, List.set_cons_succ])
    | ((with_reducible apply W_loadCell); rfl; exact M.r2; exact (show (⟨ad 240, [nv2, bv2, cu0, nilS]⟩ : Ac).cells.toArray[20]? = some nv2 by kernel_rfl); exact Salg.underlying89; rfl; simp only [Act.put, List.setIfInBounds_toArray, List.set_cons_zero, List.set_cons_succ]))
  refine (createAddr_0 nv2 (ad 240) _ (HN2.out.keptN M.kept HX.out) rfl smallAd240).mono ?_
  rintro e wk ⟨rfl, K⟩
  rw [hadr7]
  replace M := M.call K
  clear K
  go_wp2_with (first
    | ((with_reducible apply W_storeK (b := t8) (vs := (ha7.map n8).toArray)); rfl; rfl; exact M.r1; exact size45; rfl; exact one8 _; intro wl K hr3; replace M := Mem.callPut (L1 := [_]) M (Or.inr ht8) K hr3; clear K hr3; simp only [List.cons_append, List.nil_append] at M)
    | ((with_reducible apply W_loadAll); rfl; exact M.r1; exact Salg.underlying45; rfl; exact size45; simp only [Act.put, List.setIfInBounds_toArray, List.set_cons_zero, List.set_cons_succ])
    | ((with_reducible apply W_stP (b := c) (o := 39) (n := 20) (v := .agg (ha7.map n8).toArray) (rs := (chB (.slice (some ⟨g, 0, none⟩) n cap0) nilS 0 0 nilS nilS nilS tvv z20 ha7))); rfl; rfl; exact M.r0; exact size45; kernel_rfl; exact oneL rfl; exact Nat.le_of_ble_eq_true (by kernel_rfl); kernel_rfl; intro wS K hr3; replace M := Mem.callPut (L1 := []) M (Or.inl (by simp)) K hr3; clear K hr3; simp only [List.nil_append] at M)
    | ((with_reducible apply W_loadCell); rfl; exact M.r0; exact (show (chB (.slice (some ⟨g, 0, none⟩) n cap0) nilS 0 0 nilS nilS nilS tvv z20 ha7)[13]? = some (.int .u8 0) by kernel_rfl); exact Salg.underlying5; rfl; simp only [Act.put, List.setIfInBounds_toArray, List.set_cons_zero, List.set_cons_succ])
    | ((with_reducible apply W_stV (b := c) (o := 13) (v := .int .u8 1)); rfl; rfl; exact rfl; exact M.r0; exact size5; exact Nat.le_of_ble_eq_true (by kernel_rfl); intro wS K hr3; rw [show (chB (.slice (some ⟨g, 0, none⟩) n cap0) nilS 0 0 nilS nilS nilS tvv z20 ha7).setIfInBounds 13 (.int .u8 1) = (chB (.slice (some ⟨g, 0, none⟩) n cap0) nilS 0 1 nilS nilS nilS tvv z20 ha7) from by kernel_rfl] at hr3; replace M := Mem.callPut (L1 := []) M (Or.inl (by simp)) K hr3; clear K hr3; simp only [List.nil_append] at M)
    | ((with_reducible apply W_loadCell); rfl; exact M.r3; exact (show (txC v pb cd).toArray[42]? = some (n64 200000) by kernel_rfl); exact Salg.underlying23; rfl; simp only [Act.put, List.setIfInBounds_toArray, List.set_cons_zero, List.set_cons_succ]))
  refine (num_int _ 200000 rfl (by decide) _).mono ?_
  rintro e w9 ⟨lim, rfl, xHLI, K⟩
  have HLI := hid xHLI
  replace M := M.call K
  clear K xHLI
  go_wp2_with ((with_reducible apply W_stV (b := c) (o := 14) (v := lim)); rfl; rfl; exact HLI.out.one; exact M.r0; exact size89; exact Nat.le_of_ble_eq_true (by kernel_rfl); intro wS K hr3; rw [show (chB (.slice (some ⟨g, 0, none⟩) n cap0) nilS 0 1 nilS nilS nilS tvv z20 ha7).setIfInBounds 14 (lim) = (chB (.slice (some ⟨g, 0, none⟩) n cap0) nilS 0 1 lim nilS nilS tvv z20 ha7) from by kernel_rfl] at hr3; replace HLI := hid (HLI.out.keptC K M.r0 (chB_nb _ _ _ _ _ _ _ _ _ _)); replace M := Mem.callPut (L1 := []) M (Or.inl (by simp)) K hr3; clear K hr3; simp only [List.nil_append] at M)
  refine S_region (by kernel_rfl) ?_
  replace HLI := hid (HLI.out.kept (Kept.refl [] _).drew)
  refine E_stage 0 8 [0, 1, 2, 3, 4, 5, 6, 7] (by kernel_rfl) M.drew ?_
  clear M
  simp only [List.filterMap_cons, List.filterMap_nil, List.getElem?_cons_zero, List.getElem?_cons_succ]
  ((with_reducible apply E_run); rfl; rfl; (intro w M; go_simp; (try go_ints); (try simp only [↓IntWalk.iteOmega]); (try with_reducible rfl)); simp only [Act.put, List.setIfInBounds_toArray, List.set_cons_zero, List.set_cons_succ])
  ((with_reducible apply E_run); rfl; rfl; (intro w M; go_simp; (try go_ints); (try simp only [↓IntWalk.iteOmega]); (try with_reducible rfl)); simp only [Act.put, List.setIfInBounds_toArray, List.set_cons_zero, List.set_cons_succ])
  ((with_reducible apply E_run); rfl; rfl; (intro w M; go_simp; (try go_ints); (try simp only [↓IntWalk.iteOmega]); (try with_reducible rfl)); simp only [Act.put, List.setIfInBounds_toArray, List.set_cons_zero, List.set_cons_succ])
  ((with_reducible apply E_run); rfl; rfl; (intro w M; go_simp; (try go_ints); (try simp only [↓IntWalk.iteOmega]); (try with_reducible rfl)); simp only [Act.put, List.setIfInBounds_toArray, List.set_cons_zero, List.set_cons_succ])
  ((with_reducible apply E_run); rfl; rfl; (intro w M; exact run_loadCell (M.r0) rfl (show (chB (.slice (some ⟨g, 0, none⟩) n cap0) nilS 0 1 lim nilS nilS tvv z20 ha7)[14]? = some lim by kernel_rfl) Salg.underlying89 rfl); simp only [Act.put, List.setIfInBounds_toArray, List.set_cons_zero, List.set_cons_succ])
  ((with_reducible apply E_run); rfl; rfl; (intro w M; exact run_loadAll M.r3 rfl Salg.underlying49 rfl (size49C v pb cd)); simp only [Act.put, List.setIfInBounds_toArray, List.set_cons_zero, List.set_cons_succ])
  refine E_call rfl Salg.func89 (by kernel_rfl) (by kernel_rfl) (args := [.agg (txC v pb cd).toArray]) rfl ?_
  intro w1 K M
  replace HLI := hid (HLI.out.kept K)
  clear K
  refine (intrinsicC v pb cd tt ccs _ (M.kept.row HPRW.out hpbc) HPPW.out).mono ?_
  rintro e w10 ⟨ig, I, rfl, xHIG, xHI1, xHI2, K⟩
  replace HLI := hid (HLI.out.kept K)
  have HIG := hid xHIG
  have HI1 := hid xHI1
  have HI2 := hid xHI2
  replace M := M.call K
  refine ⟨_, rfl, trivial, M, ?_⟩
  clear K xHIG xHI1 xHI2
  simp only [Act.put, List.setIfInBounds_toArray, List.set_cons_zero, List.set_cons_succ]
  refine E_call rfl Salg.func88 (by kernel_rfl) (by kernel_rfl) (args := [lim, ig]) rfl ?_
  intro w1 K M
  replace HLI := hid (HLI.out.kept K)
  replace HIG := hid (HIG.out.kept K)
  clear K
  refine (less_any lim ig 200000 I _ HLI.out HIG.out (by decide) (by have := HI2.out; omega)).mono ?_
  rintro e w11 ⟨gv, rfl, xHGV, K⟩
  replace HLI := hid (HLI.out.kept K)
  replace HIG := hid (HIG.out.kept K)
  have HGV := hid xHGV
  replace M := M.call K
  refine ⟨_, rfl, trivial, M, ?_⟩
  clear K xHGV
  simp only [Act.put, List.setIfInBounds_toArray, List.set_cons_zero, List.set_cons_succ]
  refine E_nil ?_
  intro w12 K M
  replace HLI := hid (HLI.out.kept K)
  replace HIG := hid (HIG.out.kept K)
  replace HGV := hid (HGV.out.kept K)
  clear K
  clear HIG
  obtain ⟨G, hGd⟩ : ∃ G, G = 200000 - I := ⟨_, rfl⟩
  rw [← hGd] at HGV
  have hG1 : 146600 ≤ G ∧ G ≤ 147000 := by
    have h1 := HI1.out
    have h2 := HI2.out
    omega
  have HGG := hid hG1
  clear hGd HI1 HI2 hG1
  refine S_seg 8 11 (by kernel_rfl) (by decide) ?_
  simp only [List.take_succ_cons, List.take_zero, List.drop_zero, List.drop_succ_cons, Nat.sub_zero, Nat.reduceSub]
  go_wp2_with ((with_reducible apply W_stV (b := c) (o := 15) (v := gv)); rfl; rfl; exact HGV.out.one; exact M.r0; exact size89; exact Nat.le_of_ble_eq_true (by kernel_rfl); intro wS K hr3; rw [show (chB (.slice (some ⟨g, 0, none⟩) n cap0) nilS 0 1 lim nilS nilS tvv z20 ha7).setIfInBounds 15 (gv) = (chB (.slice (some ⟨g, 0, none⟩) n cap0) nilS 0 1 lim gv nilS tvv z20 ha7) from by kernel_rfl] at hr3; replace HLI := hid (HLI.out.keptC K M.r0 (chB_nb _ _ _ _ _ _ _ _ _ _)); replace HGV := hid (HGV.out.keptC K M.r0 (chB_nb _ _ _ _ _ _ _ _ _ _)); replace M := Mem.callPut (L1 := []) M (Or.inl (by simp)) K hr3; clear K hr3; simp only [List.nil_append] at M)
  refine S_done ?_
  go_wp2_with ((with_reducible apply W_loadAll); rfl; exact M.r3; exact Salg.underlying49; rfl; exact size49C v pb cd; simp only [Act.put, List.setIfInBounds_toArray, List.set_cons_zero, List.set_cons_succ])
  refine (priceC c 119 _ v pb cd _ M.r0 (chL_fee rfl rfl rfl) (by kernel_rfl)).mono ?_
  rintro e w13 ⟨pr, rfl, xHPR, K⟩
  replace HLI := hid (HLI.out.kept K)
  replace HGV := hid (HGV.out.kept K)
  have HPR := hid xHPR
  replace M := M.call K
  clear K xHPR
  go_wp2_with (first
    | ((with_reducible apply W_stV (b := c) (o := 17) (v := pr)); rfl; rfl; exact HPR.out.one; exact M.r0; exact size89; exact Nat.le_of_ble_eq_true (by kernel_rfl); intro wS K hr3; rw [show (chB (.slice (some ⟨g, 0, none⟩) n cap0) nilS 0 1 lim gv nilS tvv z20 ha7).setIfInBounds 17 (pr) = (chB (.slice (some ⟨g, 0, none⟩) n cap0) nilS 0 1 lim gv pr tvv z20 ha7) from by kernel_rfl] at hr3; replace HLI := hid (HLI.out.keptC K M.r0 (chB_nb _ _ _ _ _ _ _ _ _ _)); replace HGV := hid (HGV.out.keptC K M.r0 (chB_nb _ _ _ _ _ _ _ _ _ _)); replace HPR := hid (HPR.out.keptC K M.r0 (chB_nb _ _ _ _ _ _ _ _ _ _)); replace M := Mem.callPut (L1 := []) M (Or.inl (by simp)) K hr3; clear K hr3; simp only [List.nil_append] at M)
    | ((with_reducible apply W_loadX (n := 20) (vs := ((ad 240).map n8).toArray)); rfl; exact M.r3; exact Salg.underlying45; rfl; exact size45; exact Nat.le_of_ble_eq_true (by kernel_rfl); exact (show (txC v pb cd).toArray.extract 0 (0 + 20) = _ by kernel_rfl); simp only [Act.put, List.setIfInBounds_toArray, List.set_cons_zero, List.set_cons_succ])
    | ((with_reducible apply W_stP (b := c) (o := 19) (n := 20) (v := .agg ((ad 240).map n8).toArray) (rs := (chB (.slice (some ⟨g, 0, none⟩) n cap0) nilS 0 1 lim gv pr tvv (ad 240) ha7))); rfl; rfl; exact M.r0; exact size45; kernel_rfl; exact oneL rfl; exact Nat.le_of_ble_eq_true (by kernel_rfl); kernel_rfl; intro wS K hr3; replace HLI := hid (HLI.out.keptC K M.r0 (chB_nb _ _ _ _ _ _ _ _ _ _)); replace HGV := hid (HGV.out.keptC K M.r0 (chB_nb _ _ _ _ _ _ _ _ _ _)); replace HPR := hid (HPR.out.keptC K M.r0 (chB_nb _ _ _ _ _ _ _ _ _ _)); replace M := Mem.callPut (L1 := []) M (Or.inl (by simp)) K hr3; clear K hr3; simp only [List.nil_append] at M)
    | ((with_reducible apply W_stV (b := c) (o := 8) (v := nilS)); rfl; rfl; exact rfl; exact M.r0; exact size114; exact Nat.le_of_ble_eq_true (by kernel_rfl); intro wS K hr3; rw [show (chB (.slice (some ⟨g, 0, none⟩) n cap0) nilS 0 1 lim gv pr tvv (ad 240) ha7).setIfInBounds 8 (nilS) = (chB (.slice (some ⟨g, 0, none⟩) n cap0) nilS 0 1 lim gv pr tvv (ad 240) ha7) from by kernel_rfl] at hr3; replace HLI := hid (HLI.out.keptC K M.r0 (chB_nb _ _ _ _ _ _ _ _ _ _)); replace HGV := hid (HGV.out.keptC K M.r0 (chB_nb _ _ _ _ _ _ _ _ _ _)); replace HPR := hid (HPR.out.keptC K M.r0 (chB_nb _ _ _ _ _ _ _ _ _ _)); replace M := Mem.callPut (L1 := []) M (Or.inl (by simp)) K hr3; clear K hr3; simp only [List.nil_append] at M)
    | ((with_reducible apply W_loadCell); rfl; exact M.r0; exact (show (chB (.slice (some ⟨g, 0, none⟩) n cap0) nilS 0 1 lim gv pr tvv (ad 240) ha7)[0]? = some (.slice (some ⟨g, 0, none⟩) n cap0) by kernel_rfl); exact Salg.underlying108; rfl; simp only [Act.put, List.setIfInBounds_toArray, List.set_cons_zero, List.set_cons_succ]))
  go_loopw [96] (fun iv wr => ∃ i : Nat, i ≤ n ∧ iv = .int .i64 (i : Int) ∧ Mem w [c] [(c, .cells (chB (.slice (some ⟨g, 0, none⟩) n cap0) nilS 0 1 lim gv pr tvv (ad 240) ha7) 119 (0, 0)), (t8, .cells (ha7.map n8).toArray 45 (0, 0)), (t7, .cells (⟨ad 240, [nv2, bv2, cu0, nilS]⟩ : Ac).cells.toArray 128 (0, 0)), (tb, .cells (txC v pb cd).toArray 49 (0, 0))] wr ∧ NumV wr lim 200000 ∧ NumV wr gv G ∧ NumV wr pr 0) (fun iv _ => (n - intOf iv).toNat)
  case atStart => exact ⟨0, Nat.zero_le _, rfl, M, HLI.out, HGV.out, HPR.out⟩
  case round =>
    clear M HLI HGV HPR
    obtain ⟨i, hi, rfl, M, y1, y2, y3⟩ := hrel
    have HLI := hid y1
    have HGV := hid y2
    have HPR := hid y3
    clear y1 y2 y3
    rcases Nat.lt_or_ge i n with hlt | hge
    · obtain ⟨b0, b1, b2, b3, b4, b5, b6, b7, b8, b9, b10, b11, b12, b13, b14, b15, b16, b17, b18, b19, nv, bv, cu, hs2, hex, o1, o2, o3⟩ := HAT.out i hlt
      have HEX := hid hex
      have HO1 := hid (acE_one (b0 := b0) (b1 := b1) (b2 := b2) (b3 := b3) (b4 := b4) (b5 := b5) (b6 := b6) (b7 := b7) (b8 := b8) (b9 := b9) (b10 := b10) (b11 := b11) (b12 := b12) (b13 := b13) (b14 := b14) (b15 := b15) (b16 := b16) (b17 := b17) (b18 := b18) (b19 := b19) o1 o2 o3)
      clear hex o1 o2 o3
      go_wp2_with (first
        | ((with_reducible apply W_loadX (b := g) (o := i * 24) (n := 24) (cs := cur0) (vs := (⟨[b0, b1, b2, b3, b4, b5, b6, b7, b8, b9, b10, b11, b12, b13, b14, b15, b16, b17, b18, b19], [nv, bv, cu, nilS]⟩ : Ac).cells.toArray)); (first | rfl | (simp [Act.eval]; done)); exact M.kept.row hg hgc; exact Salg.underlying128; rfl; exact size128; exact hs2; exact HEX.out; simp only [Act.put, List.setIfInBounds_toArray, List.set_cons_zero, List.set_cons_succ])
        | ((with_reducible apply L_allocN (d := 10) M); exact zero128; clear M; intro t10 w1 ht10 ht10N K M; replace HLI := hid (HLI.out.kept K); replace HGV := hid (HGV.out.kept K); replace HPR := hid (HPR.out.kept K); clear K ht10N; simp only [Act.put, List.setIfInBounds_toArray, List.set_cons_zero, List.set_cons_succ])
        | ((with_reducible apply W_storeK (b := t10) (vs := (⟨[b0, b1, b2, b3, b4, b5, b6, b7, b8, b9, b10, b11, b12, b13, b14, b15, b16, b17, b18, b19], [nv, bv, cu, nilS]⟩ : Ac).cells.toArray)); rfl; rfl; exact M.r0; exact size128; rfl; exact HO1.out; intro w3 K hr3; replace HLI := hid (HLI.out.keptC K M.r0 (not_bytes_at (i := 23) (p := none) (n := 0) (m := 0) (by kernel_rfl))); replace HGV := hid (HGV.out.keptC K M.r0 (not_bytes_at (i := 23) (p := none) (n := 0) (m := 0) (by kernel_rfl))); replace HPR := hid (HPR.out.keptC K M.r0 (not_bytes_at (i := 23) (p := none) (n := 0) (m := 0) (by kernel_rfl))); replace M := Mem.callPut (L1 := []) M (Or.inr ht10) K hr3; clear K hr3; simp only [List.nil_append] at M)
        | ((with_reducible apply W_loadCell); rfl; exact M.r0; exact (show (⟨[b0, b1, b2, b3, b4, b5, b6, b7, b8, b9, b10, b11, b12, b13, b14, b15, b16, b17, b18, b19], [nv, bv, cu, nilS]⟩ : Ac).cells.toArray[23]? = some nilS by kernel_rfl); exact Salg.underlying126; rfl; simp only [Act.put, List.setIfInBounds_toArray, List.set_cons_zero, List.set_cons_succ]))
      replace M := M.tail
      go_loopw [103] (fun iv wx => iv = .int .i64 0 ∧ Mem w [c] [(c, .cells (chB (.slice (some ⟨g, 0, none⟩) n cap0) nilS 0 1 lim gv pr tvv (ad 240) ha7) 119 (0, 0)), (t8, .cells (ha7.map n8).toArray 45 (0, 0)), (t7, .cells (⟨ad 240, [nv2, bv2, cu0, nilS]⟩ : Ac).cells.toArray 128 (0, 0)), (tb, .cells (txC v pb cd).toArray 49 (0, 0))] wx ∧ NumV wx lim 200000 ∧ NumV wx gv G ∧ NumV wx pr 0) (fun _ _ => 0)
      case atStart => exact ⟨rfl, M, HLI.out, HGV.out, HPR.out⟩
      case round =>
        clear M HLI HGV HPR
        obtain ⟨rfl, M, y1, y2, y3⟩ := hrel
        go_wp2_with fail
        go_roundw
        case rel => exact ⟨i + 1, by omega, by go_num, M, y1, y2, y3⟩
        case measure => simp [intOf]; omega
    · have hin : i = n := by omega
      subst hin
      clear hge hi HAT
      have HAC : Hid (AccD D _ (.slice (some ⟨g, 0, none⟩) i cap0)) := (AccD.still D) _ _ _ _ HV.out M.kept HX.out
      replace HN2 := hid (HN2.out.keptN M.kept HX.out)
      replace HB2 := hid (HB2.out.keptN M.kept HX.out)
      go_wp2_with fail
      refine S_region (by kernel_rfl) ?_
      replace HLI := hid (HLI.out.kept (Kept.refl [] _).drew)
      replace HGV := hid (HGV.out.kept (Kept.refl [] _).drew)
      replace HPR := hid (HPR.out.kept (Kept.refl [] _).drew)
      replace HAC := hid ((AccD.still _).kept HAC.out (Kept.refl [] _).drew)
      replace HN2 := hid (HN2.out.kept (Kept.refl [] _).drew)
      replace HB2 := hid (HB2.out.kept (Kept.refl [] _).drew)
      refine E_stage 0 9 [0, 1, 2, 3, 4, 5, 6, 7, 8] (by kernel_rfl) M.drew ?_
      clear M
      simp only [List.filterMap_cons, List.filterMap_nil, List.getElem?_cons_zero, List.getElem?_cons_succ]
      ((with_reducible apply E_run); rfl; rfl; (intro w M; go_simp; (try go_ints); (try simp only [↓IntWalk.iteOmega]); (try with_reducible rfl)); simp only [Act.put, List.setIfInBounds_toArray, List.set_cons_zero, List.set_cons_succ])
      ((with_reducible apply E_run); rfl; rfl; (intro w M; go_simp; (try go_ints); (try simp only [↓IntWalk.iteOmega]); (try with_reducible rfl)); simp only [Act.put, List.setIfInBounds_toArray, List.set_cons_zero, List.set_cons_succ])
      ((with_reducible apply E_run); rfl; rfl; (intro w M; go_simp; (try go_ints); (try simp only [↓IntWalk.iteOmega]); (try with_reducible rfl)); simp only [Act.put, List.setIfInBounds_toArray, List.set_cons_zero, List.set_cons_succ])
      ((with_reducible apply E_run); rfl; rfl; (intro w M; go_simp; (try go_ints); (try simp only [↓IntWalk.iteOmega]); (try with_reducible rfl)); simp only [Act.put, List.setIfInBounds_toArray, List.set_cons_zero, List.set_cons_succ])
      ((with_reducible apply E_run (v := .agg ((ad 240).map n8).toArray)); rfl; rfl; (intro w M; exact run_loadX (n := 20) M.r3 rfl Salg.underlying45 rfl size45 (Nat.le_of_ble_eq_true (by kernel_rfl)) (show (txC v pb cd).toArray.extract 0 (0 + 20) = _ by kernel_rfl)); simp only [Act.put, List.setIfInBounds_toArray, List.set_cons_zero, List.set_cons_succ])
      ((with_reducible apply E_run); rfl; rfl; (intro w M; go_simp; (try go_ints); (try simp only [↓IntWalk.iteOmega]); (try with_reducible rfl)); simp only [Act.put, List.setIfInBounds_toArray, List.set_cons_zero, List.set_cons_succ])
      ((with_reducible apply E_run); rfl; rfl; (intro w M; exact run_loadCell (M.r2) rfl (show (⟨ad 240, [nv2, bv2, cu0, nilS]⟩ : Ac).cells.toArray[20]? = some nv2 by kernel_rfl) Salg.underlying89 rfl); simp only [Act.put, List.setIfInBounds_toArray, List.set_cons_zero, List.set_cons_succ])
      refine E_call rfl Salg.func87 (by kernel_rfl) (by kernel_rfl) (args := [.int .u64 1]) rfl ?_
      intro w1 K M
      replace HLI := hid (HLI.out.kept K)
      replace HGV := hid (HGV.out.kept K)
      replace HPR := hid (HPR.out.kept K)
      replace HAC := hid ((AccD.still _).kept HAC.out K)
      replace HN2 := hid (HN2.out.kept K)
      replace HB2 := hid (HB2.out.kept K)
      clear K
      refine (num_int _ 1 rfl (by decide) _).mono ?_
      rintro e w14 ⟨on, rfl, xHON, K⟩
      replace HLI := hid (HLI.out.kept K)
      replace HGV := hid (HGV.out.kept K)
      replace HPR := hid (HPR.out.kept K)
      replace HAC := hid ((AccD.still _).kept HAC.out K)
      replace HN2 := hid (HN2.out.kept K)
      replace HB2 := hid (HB2.out.kept K)
      have HON := hid xHON
      replace M := M.call K
      refine ⟨_, rfl, trivial, M, ?_⟩
      clear K xHON
      simp only [Act.put, List.setIfInBounds_toArray, List.set_cons_zero, List.set_cons_succ]
      refine E_call rfl Salg.func68 (by kernel_rfl) (by kernel_rfl) (args := [nv2, on]) rfl ?_
      intro w1 K M
      replace HLI := hid (HLI.out.kept K)
      replace HGV := hid (HGV.out.kept K)
      replace HPR := hid (HPR.out.kept K)
      replace HAC := hid ((AccD.still _).kept HAC.out K)
      replace HN2 := hid (HN2.out.kept K)
      replace HB2 := hid (HB2.out.kept K)
      replace HON := hid (HON.out.kept K)
      clear K
      refine (add_num nv2 on 0 1 _ HN2.out HON.out (by decide) (by decide)).mono ?_
      rintro e w15 ⟨nn, rfl, xHNN, K⟩
      replace HLI := hid (HLI.out.kept K)
      replace HGV := hid (HGV.out.kept K)
      replace HPR := hid (HPR.out.kept K)
      replace HAC := hid ((AccD.still _).kept HAC.out K)
      replace HN2 := hid (HN2.out.kept K)
      replace HB2 := hid (HB2.out.kept K)
      replace HON := hid (HON.out.kept K)
      have HNN := hid xHNN
      replace M := M.call K
      refine ⟨_, rfl, trivial, M, ?_⟩
      clear K xHNN
      simp only [Act.put, List.setIfInBounds_toArray, List.set_cons_zero, List.set_cons_succ]
      refine E_nil ?_
      intro w16 K M
      replace HLI := hid (HLI.out.kept K)
      replace HGV := hid (HGV.out.kept K)
      replace HPR := hid (HPR.out.kept K)
      replace HAC := hid ((AccD.still _).kept HAC.out K)
      replace HN2 := hid (HN2.out.kept K)
      replace HB2 := hid (HB2.out.kept K)
      replace HON := hid (HON.out.kept K)
      replace HNN := hid (HNN.out.kept K)
      clear K
      clear HON HN2
      refine S_seg 9 10 (by kernel_rfl) (by decide) ?_
      simp only [List.take_succ_cons, List.take_zero, List.drop_zero, List.drop_succ_cons, Nat.sub_zero, Nat.reduceSub]
      go_wp2_with fail
      refine (setNonce_D c _ (.slice (some ⟨g, 0, none⟩) i cap0) nn (0 + 1) D _ (ad 240) _ M.r0 (chB_nb _ _ _ _ _ _ _ _ _ _) (by kernel_rfl) HAC.out rfl smallAd240 HNN.out HD.out (by decide) (by omega)).mono ?_
      rintro e w17 ⟨r, v1, rfl, K, k1, k2⟩
      rw [show (chB (.slice (some ⟨g, 0, none⟩) i cap0) nilS 0 1 lim gv pr tvv (ad 240) ha7).setIfInBounds 0 v1 = (chB v1 nilS 0 1 lim gv pr tvv (ad 240) ha7) from by kernel_rfl] at k1
      replace HLI := hid (HLI.out.keptC K M.r0 (chB_nb _ _ _ _ _ _ _ _ _ _))
      replace HGV := hid (HGV.out.keptC K M.r0 (chB_nb _ _ _ _ _ _ _ _ _ _))
      replace HPR := hid (HPR.out.keptC K M.r0 (chB_nb _ _ _ _ _ _ _ _ _ _))
      replace HB2 := hid (HB2.out.keptC K M.r0 (chB_nb _ _ _ _ _ _ _ _ _ _))
      replace HAC := hid k2
      replace M := Mem.callPut (L1 := []) M (Or.inl (by simp)) K k1
      clear K k1 k2
      simp only [List.nil_append] at M
      clear HNN
      go_wp2_with fail
      refine S_done ?_
      go_wp2_with fail
      refine S_region (by kernel_rfl) ?_
      replace HLI := hid (HLI.out.kept (Kept.refl [] _).drew)
      replace HGV := hid (HGV.out.kept (Kept.refl [] _).drew)
      replace HPR := hid (HPR.out.kept (Kept.refl [] _).drew)
      replace HAC := hid ((AccD.still _).kept HAC.out (Kept.refl [] _).drew)
      replace HB2 := hid (HB2.out.kept (Kept.refl [] _).drew)
      refine E_stage 0 17 [0, 1, 2, 3, 4, 5, 6, 7, 8, 9, 10, 11, 12, 13, 14, 15, 16] (by kernel_rfl) M.drew ?_
      clear M
      simp only [List.filterMap_cons, List.filterMap_nil, List.getElem?_cons_zero, List.getElem?_cons_succ]
      ((with_reducible apply E_run); rfl; rfl; (intro w M; go_simp; (try go_ints); (try simp only [↓IntWalk.iteOmega]); (try with_reducible rfl)); simp only [Act.put, List.setIfInBounds_toArray, List.set_cons_zero, List.set_cons_succ])
      ((with_reducible apply E_run); rfl; rfl; (intro w M; go_simp; (try go_ints); (try simp only [↓IntWalk.iteOmega]); (try with_reducible rfl)); simp only [Act.put, List.setIfInBounds_toArray, List.set_cons_zero, List.set_cons_succ])
      ((with_reducible apply E_run); rfl; rfl; (intro w M; go_simp; (try go_ints); (try simp only [↓IntWalk.iteOmega]); (try with_reducible rfl)); simp only [Act.put, List.setIfInBounds_toArray, List.set_cons_zero, List.set_cons_succ])
      ((with_reducible apply E_run); rfl; rfl; (intro w M; go_simp; (try go_ints); (try simp only [↓IntWalk.iteOmega]); (try with_reducible rfl)); simp only [Act.put, List.setIfInBounds_toArray, List.set_cons_zero, List.set_cons_succ])
      ((with_reducible apply E_run (v := .agg ((ad 240).map n8).toArray)); rfl; rfl; (intro w M; exact run_loadX (n := 20) M.r3 rfl Salg.underlying45 rfl size45 (Nat.le_of_ble_eq_true (by kernel_rfl)) (show (txC v pb cd).toArray.extract 0 (0 + 20) = _ by kernel_rfl)); simp only [Act.put, List.setIfInBounds_toArray, List.set_cons_zero, List.set_cons_succ])
      ((with_reducible apply E_run); rfl; rfl; (intro w M; go_simp; (try go_ints); (try simp only [↓IntWalk.iteOmega]); (try with_reducible rfl)); simp only [Act.put, List.setIfInBounds_toArray, List.set_cons_zero, List.set_cons_succ])
      ((with_reducible apply E_run); rfl; rfl; (intro w M; exact run_loadCell (M.r2) rfl (show (⟨ad 240, [nv2, bv2, cu0, nilS]⟩ : Ac).cells.toArray[21]? = some bv2 by kernel_rfl) Salg.underlying89 rfl); simp only [Act.put, List.setIfInBounds_toArray, List.set_cons_zero, List.set_cons_succ])
      ((with_reducible apply E_run); rfl; rfl; (intro w M; go_simp; (try go_ints); (try simp only [↓IntWalk.iteOmega]); (try with_reducible rfl)); simp only [Act.put, List.setIfInBounds_toArray, List.set_cons_zero, List.set_cons_succ])
      ((with_reducible apply E_run); rfl; rfl; (intro w M; go_simp; (try go_ints); (try simp only [↓IntWalk.iteOmega]); (try with_reducible rfl)); simp only [Act.put, List.setIfInBounds_toArray, List.set_cons_zero, List.set_cons_succ])
      ((with_reducible apply E_run); rfl; rfl; (intro w M; go_simp; (try go_ints); (try simp only [↓IntWalk.iteOmega]); (try with_reducible rfl)); simp only [Act.put, List.setIfInBounds_toArray, List.set_cons_zero, List.set_cons_succ])
      ((with_reducible apply E_run); rfl; rfl; (intro w M; exact run_loadCell (M.r0) rfl (show (chB v1 nilS 0 1 lim gv pr tvv (ad 240) ha7)[14]? = some lim by kernel_rfl) Salg.underlying89 rfl); simp only [Act.put, List.setIfInBounds_toArray, List.set_cons_zero, List.set_cons_succ])
      ((with_reducible apply E_run); rfl; rfl; (intro w M; go_simp; (try go_ints); (try simp only [↓IntWalk.iteOmega]); (try with_reducible rfl)); simp only [Act.put, List.setIfInBounds_toArray, List.set_cons_zero, List.set_cons_succ])
      ((with_reducible apply E_run); rfl; rfl; (intro w M; go_simp; (try go_ints); (try simp only [↓IntWalk.iteOmega]); (try with_reducible rfl)); simp only [Act.put, List.setIfInBounds_toArray, List.set_cons_zero, List.set_cons_succ])
      ((with_reducible apply E_run); rfl; rfl; (intro w M; go_simp; (try go_ints); (try simp only [↓IntWalk.iteOmega]); (try with_reducible rfl)); simp only [Act.put, List.setIfInBounds_toArray, List.set_cons_zero, List.set_cons_succ])
      ((with_reducible apply E_run); rfl; rfl; (intro w M; exact run_loadCell (M.r0) rfl (show (chB v1 nilS 0 1 lim gv pr tvv (ad 240) ha7)[17]? = some pr by kernel_rfl) Salg.underlying89 rfl); simp only [Act.put, List.setIfInBounds_toArray, List.set_cons_zero, List.set_cons_succ])
      refine E_call rfl Salg.func70 (by kernel_rfl) (by kernel_rfl) (args := [lim, pr]) rfl ?_
      intro w1 K M
      replace HLI := hid (HLI.out.kept K)
      replace HGV := hid (HGV.out.kept K)
      replace HPR := hid (HPR.out.kept K)
      replace HAC := hid ((AccD.still _).kept HAC.out K)
      replace HB2 := hid (HB2.out.kept K)
      clear K
      refine (mul_num lim pr 200000 0 _ HLI.out HPR.out (by decide) (by decide)).mono ?_
      rintro e w18 ⟨fe, rfl, xHFE, K⟩
      replace HLI := hid (HLI.out.kept K)
      replace HGV := hid (HGV.out.kept K)
      replace HPR := hid (HPR.out.kept K)
      replace HAC := hid ((AccD.still _).kept HAC.out K)
      replace HB2 := hid (HB2.out.kept K)
      have HFE := hid xHFE
      replace M := M.call K
      refine ⟨_, rfl, trivial, M, ?_⟩
      clear K xHFE
      simp only [Act.put, List.setIfInBounds_toArray, List.set_cons_zero, List.set_cons_succ]
      refine E_call rfl Salg.func88 (by kernel_rfl) (by kernel_rfl) (args := [bv2, fe]) rfl ?_
      intro w1 K M
      replace HLI := hid (HLI.out.kept K)
      replace HGV := hid (HGV.out.kept K)
      replace HPR := hid (HPR.out.kept K)
      replace HAC := hid ((AccD.still _).kept HAC.out K)
      replace HB2 := hid (HB2.out.kept K)
      replace HFE := hid (HFE.out.kept K)
      clear K
      refine (less_any bv2 fe B (200000 * 0) _ HB2.out HFE.out (Nat.lt_of_lt_of_le hB (by decide)) (by omega)).mono ?_
      rintro e w19 ⟨bb, rfl, xHBB, K⟩
      replace HLI := hid (HLI.out.kept K)
      replace HGV := hid (HGV.out.kept K)
      replace HPR := hid (HPR.out.kept K)
      replace HAC := hid ((AccD.still _).kept HAC.out K)
      replace HB2 := hid (HB2.out.kept K)
      replace HFE := hid (HFE.out.kept K)
      have HBB := hid xHBB
      replace M := M.call K
      refine ⟨_, rfl, trivial, M, ?_⟩
      clear K xHBB
      simp only [Act.put, List.setIfInBounds_toArray, List.set_cons_zero, List.set_cons_succ]
      refine E_nil ?_
      intro w20 K M
      replace HLI := hid (HLI.out.kept K)
      replace HGV := hid (HGV.out.kept K)
      replace HPR := hid (HPR.out.kept K)
      replace HAC := hid ((AccD.still _).kept HAC.out K)
      replace HB2 := hid (HB2.out.kept K)
      replace HFE := hid (HFE.out.kept K)
      replace HBB := hid (HBB.out.kept K)
      clear K
      clear HFE HB2
      refine S_seg 17 18 (by kernel_rfl) (by decide) ?_
      simp only [List.take_succ_cons, List.take_zero, List.drop_zero, List.drop_succ_cons, Nat.sub_zero, Nat.reduceSub]
      go_wp2_with fail
      refine (setBalance_D c _ v1 bb (B - 0) (dPut ⟨ad 240, 1, B, []⟩ false D) _ (ad 240) _ M.r0 (chB_nb _ _ _ _ _ _ _ _ _ _) (by kernel_rfl) HAC.out rfl smallAd240 HBB.out HD1.out Nat.one_ne_zero (by omega)).mono ?_
      rintro e w21 ⟨r, v2, rfl, K, k1, k2⟩
      rw [show (chB v1 nilS 0 1 lim gv pr tvv (ad 240) ha7).setIfInBounds 0 v2 = (chB v2 nilS 0 1 lim gv pr tvv (ad 240) ha7) from by kernel_rfl] at k1
      replace HLI := hid (HLI.out.keptC K M.r0 (chB_nb _ _ _ _ _ _ _ _ _ _))
      replace HGV := hid (HGV.out.keptC K M.r0 (chB_nb _ _ _ _ _ _ _ _ _ _))
      replace HPR := hid (HPR.out.keptC K M.r0 (chB_nb _ _ _ _ _ _ _ _ _ _))
      replace HAC := hid k2
      replace M := Mem.callPut (L1 := []) M (Or.inl (by simp)) K k1
      clear K k1 k2
      simp only [List.nil_append] at M
      clear HBB
      go_wp2_with fail
      refine S_done ?_
      have HWZ : Hid (AdsV _ nilS []) := AdsV.nil0 w21
      go_wp2_with fail
      refine S_region (by kernel_rfl) ?_
      replace HLI := hid (HLI.out.kept (Kept.refl [] _).drew)
      replace HGV := hid (HGV.out.kept (Kept.refl [] _).drew)
      replace HPR := hid (HPR.out.kept (Kept.refl [] _).drew)
      replace HAC := hid ((AccD.still _).kept HAC.out (Kept.refl [] _).drew)
      replace HWZ := hid (HWZ.out.kept (Kept.refl [] _).drew)
      refine E_stage 0 5 [0, 1, 2, 3, 4] (by kernel_rfl) M.drew ?_
      clear M
      simp only [List.filterMap_cons, List.filterMap_nil, List.getElem?_cons_zero, List.getElem?_cons_succ]
      ((with_reducible apply E_run); rfl; rfl; (intro w M; go_simp; (try go_ints); (try simp only [↓IntWalk.iteOmega]); (try with_reducible rfl)); simp only [Act.put, List.setIfInBounds_toArray, List.set_cons_zero, List.set_cons_succ])
      ((with_reducible apply E_run); rfl; rfl; (intro w M; go_simp; (try go_ints); (try simp only [↓IntWalk.iteOmega]); (try with_reducible rfl)); simp only [Act.put, List.setIfInBounds_toArray, List.set_cons_zero, List.set_cons_succ])
      ((with_reducible apply E_run); rfl; rfl; (intro w M; go_simp; (try go_ints); (try simp only [↓IntWalk.iteOmega]); (try with_reducible rfl)); simp only [Act.put, List.setIfInBounds_toArray, List.set_cons_zero, List.set_cons_succ])
      ((with_reducible apply E_run); rfl; rfl; (intro w M; go_simp; (try go_ints); (try simp only [↓IntWalk.iteOmega]); (try with_reducible rfl)); simp only [Act.put, List.setIfInBounds_toArray, List.set_cons_zero, List.set_cons_succ])
      ((with_reducible apply E_run (v := .agg ((ad 240).map n8).toArray)); rfl; rfl; (intro w M; exact run_loadX (n := 20) M.r3 rfl Salg.underlying45 rfl size45 (Nat.le_of_ble_eq_true (by kernel_rfl)) (show (txC v pb cd).toArray.extract 0 (0 + 20) = _ by kernel_rfl)); simp only [Act.put, List.setIfInBounds_toArray, List.set_cons_zero, List.set_cons_succ])
      refine E_nil ?_
      intro wq K M
      replace HLI := hid (HLI.out.kept K)
      replace HGV := hid (HGV.out.kept K)
      replace HPR := hid (HPR.out.kept K)
      replace HAC := hid ((AccD.still _).kept HAC.out K)
      replace HWZ := hid (HWZ.out.kept K)
      clear K
      refine S_seg 5 6 (by kernel_rfl) (by decide) ?_
      simp only [List.take_succ_cons, List.take_zero, List.drop_zero, List.drop_succ_cons, Nat.sub_zero, Nat.reduceSub]
      go_wp2_with fail
      refine (warm_any c 119 _ nilS [] (ad 240) _ M.r0 (by kernel_rfl) HWZ.out ⟨rfl, smallAd240⟩ (Nat.le_trans ((show ([] : List (List Nat)).length ≤ 0 from Nat.le_refl 0)) (by decide)) (by decide)).mono ?_
      rintro e w22 ⟨r, z1, rfl, K, k1, k2⟩
      rw [show (chB v2 nilS 0 1 lim gv pr tvv (ad 240) ha7).setIfInBounds 1 z1 = (chB v2 z1 0 1 lim gv pr tvv (ad 240) ha7) from by kernel_rfl] at k1
      replace HLI := hid (HLI.out.keptC K M.r0 (chB_nb _ _ _ _ _ _ _ _ _ _))
      replace HGV := hid (HGV.out.keptC K M.r0 (chB_nb _ _ _ _ _ _ _ _ _ _))
      replace HPR := hid (HPR.out.keptC K M.r0 (chB_nb _ _ _ _ _ _ _ _ _ _))
      replace HAC := hid ((AccD.still _).keptC HAC.out K M.r0 (chB_nb _ _ _ _ _ _ _ _ _ _) (.inl rfl))
      replace HWZ := hid k2
      replace M := Mem.callPut (L1 := []) M (Or.inl (by simp)) K k1
      clear K k1 k2
      simp only [List.nil_append] at M
      go_wp2_with fail
      refine S_done ?_
      go_wp2_with fail
      refine S_region (by kernel_rfl) ?_
      replace HLI := hid (HLI.out.kept (Kept.refl [] _).drew)
      replace HGV := hid (HGV.out.kept (Kept.refl [] _).drew)
      replace HPR := hid (HPR.out.kept (Kept.refl [] _).drew)
      replace HAC := hid ((AccD.still _).kept HAC.out (Kept.refl [] _).drew)
      replace HWZ := hid (HWZ.out.kept (Kept.refl [] _).drew)
      refine E_stage 0 8 [0, 1, 2, 3, 4, 5, 6, 7] (by kernel_rfl) M.drew ?_
      clear M
      simp only [List.filterMap_cons, List.filterMap_nil, List.getElem?_cons_zero, List.getElem?_cons_succ]
      ((with_reducible apply E_run); rfl; rfl; (intro w M; go_simp; (try go_ints); (try simp only [↓IntWalk.iteOmega]); (try with_reducible rfl)); simp only [Act.put, List.setIfInBounds_toArray, List.set_cons_zero, List.set_cons_succ])
      ((with_reducible apply E_run); rfl; rfl; (intro w M; go_simp; (try go_ints); (try simp only [↓IntWalk.iteOmega]); (try with_reducible rfl)); simp only [Act.put, List.setIfInBounds_toArray, List.set_cons_zero, List.set_cons_succ])
      ((with_reducible apply E_run); rfl; rfl; (intro w M; go_simp; (try go_ints); (try simp only [↓IntWalk.iteOmega]); (try with_reducible rfl)); simp only [Act.put, List.setIfInBounds_toArray, List.set_cons_zero, List.set_cons_succ])
      ((with_reducible apply E_run); rfl; rfl; (intro w M; go_simp; (try go_ints); (try simp only [↓IntWalk.iteOmega]); (try with_reducible rfl)); simp only [Act.put, List.setIfInBounds_toArray, List.set_cons_zero, List.set_cons_succ])
      ((with_reducible apply E_run); rfl; rfl; (intro w M; go_simp; (try go_ints); (try simp only [↓IntWalk.iteOmega]); (try with_reducible rfl)); simp only [Act.put, List.setIfInBounds_toArray, List.set_cons_zero, List.set_cons_succ])
      ((with_reducible apply E_run); rfl; rfl; (intro w M; go_simp; (try go_ints); (try simp only [↓IntWalk.iteOmega]); (try with_reducible rfl)); simp only [Act.put, List.setIfInBounds_toArray, List.set_cons_zero, List.set_cons_succ])
      ((with_reducible apply E_run); rfl; rfl; (intro w M; go_simp; (try go_ints); (try simp only [↓IntWalk.iteOmega]); (try with_reducible rfl)); simp only [Act.put, List.setIfInBounds_toArray, List.set_cons_zero, List.set_cons_succ])
      ((with_reducible apply E_run (v := .agg ((ad 192).map n8).toArray)); rfl; rfl; (intro w M; exact run_loadX (n := 20) M.r0 rfl Salg.underlying45 rfl size45 (Nat.le_of_ble_eq_true (by kernel_rfl)) (show (chB v2 z1 0 1 lim gv pr tvv (ad 240) ha7).extract 59 (59 + 20) = _ by kernel_rfl)); simp only [Act.put, List.setIfInBounds_toArray, List.set_cons_zero, List.set_cons_succ])
      refine E_nil ?_
      intro wq K M
      replace HLI := hid (HLI.out.kept K)
      replace HGV := hid (HGV.out.kept K)
      replace HPR := hid (HPR.out.kept K)
      replace HAC := hid ((AccD.still _).kept HAC.out K)
      replace HWZ := hid (HWZ.out.kept K)
      clear K
      refine S_seg 8 9 (by kernel_rfl) (by decide) ?_
      simp only [List.take_succ_cons, List.take_zero, List.drop_zero, List.drop_succ_cons, Nat.sub_zero, Nat.reduceSub]
      go_wp2_with fail
      refine (warm_any c 119 _ z1 (adWith [] (ad 240)) (ad 192) _ M.r0 (by kernel_rfl) HWZ.out ⟨rfl, (ad_small (by decide))⟩ (Nat.le_trans ((adW_le (show ([] : List (List Nat)).length ≤ 0 from Nat.le_refl 0))) (by decide)) (by decide)).mono ?_
      rintro e w23 ⟨r, z2, rfl, K, k1, k2⟩
      rw [show (chB v2 z1 0 1 lim gv pr tvv (ad 240) ha7).setIfInBounds 1 z2 = (chB v2 z2 0 1 lim gv pr tvv (ad 240) ha7) from by kernel_rfl] at k1
      replace HLI := hid (HLI.out.keptC K M.r0 (chB_nb _ _ _ _ _ _ _ _ _ _))
      replace HGV := hid (HGV.out.keptC K M.r0 (chB_nb _ _ _ _ _ _ _ _ _ _))
      replace HPR := hid (HPR.out.keptC K M.r0 (chB_nb _ _ _ _ _ _ _ _ _ _))
      replace HAC := hid ((AccD.still _).keptC HAC.out K M.r0 (chB_nb _ _ _ _ _ _ _ _ _ _) (.inl rfl))
      replace HWZ := hid k2
      replace M := Mem.callPut (L1 := []) M (Or.inl (by simp)) K k1
      clear K k1 k2
      simp only [List.nil_append] at M
      go_wp2_with fail
      refine S_done ?_
      go_wp2_with fail
      refine S_region (by kernel_rfl) ?_
      replace HLI := hid (HLI.out.kept (Kept.refl [] _).drew)
      replace HGV := hid (HGV.out.kept (Kept.refl [] _).drew)
      replace HPR := hid (HPR.out.kept (Kept.refl [] _).drew)
      replace HAC := hid ((AccD.still _).kept HAC.out (Kept.refl [] _).drew)
      replace HWZ := hid (HWZ.out.kept (Kept.refl [] _).drew)
      refine E_stage 0 4 [0, 1, 2, 3] (by kernel_rfl) M.drew ?_
      clear M
      simp only [List.filterMap_cons, List.filterMap_nil, List.getElem?_cons_zero, List.getElem?_cons_succ]
      ((with_reducible apply E_run); rfl; rfl; (intro w M; go_simp; (try go_ints); (try simp only [↓IntWalk.iteOmega]); (try with_reducible rfl)); simp only [Act.put, List.setIfInBounds_toArray, List.set_cons_zero, List.set_cons_succ])
      ((with_reducible apply E_run); rfl; rfl; (intro w M; go_simp; (try go_ints); (try simp only [↓IntWalk.iteOmega]); (try with_reducible rfl)); simp only [Act.put, List.setIfInBounds_toArray, List.set_cons_zero, List.set_cons_succ])
      ((with_reducible apply E_run); rfl; rfl; (intro w M; go_simp; (try go_ints); (try simp only [↓IntWalk.iteOmega]); (try with_reducible rfl)); simp only [Act.put, List.setIfInBounds_toArray, List.set_cons_zero, List.set_cons_succ])
      ((with_reducible apply E_run); rfl; rfl; (intro w M; exact run_loadAll M.r1 rfl Salg.underlying45 rfl size45); simp only [Act.put, List.setIfInBounds_toArray, List.set_cons_zero, List.set_cons_succ])
      refine E_nil ?_
      intro wq K M
      replace HLI := hid (HLI.out.kept K)
      replace HGV := hid (HGV.out.kept K)
      replace HPR := hid (HPR.out.kept K)
      replace HAC := hid ((AccD.still _).kept HAC.out K)
      replace HWZ := hid (HWZ.out.kept K)
      clear K
      refine S_seg 4 5 (by kernel_rfl) (by decide) ?_
      simp only [List.take_succ_cons, List.take_zero, List.drop_zero, List.drop_succ_cons, Nat.sub_zero, Nat.reduceSub]
      go_wp2_with fail
      refine (warm_any c 119 _ z2 (adWith (adWith [] (ad 240)) (ad 192)) ha7 _ M.r0 (by kernel_rfl) HWZ.out ⟨rfl, small_ha7⟩ (Nat.le_trans ((adW_le (adW_le (show ([] : List (List Nat)).length ≤ 0 from Nat.le_refl 0)))) (by decide)) (by decide)).mono ?_
      rintro e w24 ⟨r, z3, rfl, K, k1, k2⟩
      rw [show (chB v2 z2 0 1 lim gv pr tvv (ad 240) ha7).setIfInBounds 1 z3 = (chB v2 z3 0 1 lim gv pr tvv (ad 240) ha7) from by kernel_rfl] at k1
      replace HLI := hid (HLI.out.keptC K M.r0 (chB_nb _ _ _ _ _ _ _ _ _ _))
      replace HGV := hid (HGV.out.keptC K M.r0 (chB_nb _ _ _ _ _ _ _ _ _ _))
      replace HPR := hid (HPR.out.keptC K M.r0 (chB_nb _ _ _ _ _ _ _ _ _ _))
      replace HAC := hid ((AccD.still _).keptC HAC.out K M.r0 (chB_nb _ _ _ _ _ _ _ _ _ _) (.inl rfl))
      replace HWZ := hid k2
      replace M := Mem.callPut (L1 := []) M (Or.inl (by simp)) K k1
      clear K k1 k2
      simp only [List.nil_append] at M
      go_wp2_with fail
      refine S_done ?_
      go_wp2_with ((with_reducible apply W_buildV (d := 176) (v := .agg ((ad 4).map n8).toArray)); kernel_rfl; simp only [Act.put, List.setIfInBounds_toArray, List.set_cons_zero, List.set_cons_succ])
      refine (warm_any c 119 _ z3 (adWith (adWith (adWith [] (ad 240)) (ad 192)) ha7) (ad 4) _ M.r0 (by kernel_rfl) HWZ.out ⟨rfl, (ad_small (by decide))⟩ (Nat.le_trans ((adW_le (adW_le (adW_le (show ([] : List (List Nat)).length ≤ 0 from Nat.le_refl 0))))) (by decide)) (by decide)).mono ?_
      rintro e w25 ⟨r, z4, rfl, K, k1, k2⟩
      rw [show (chB v2 z3 0 1 lim gv pr tvv (ad 240) ha7).setIfInBounds 1 z4 = (chB v2 z4 0 1 lim gv pr tvv (ad 240) ha7) from by kernel_rfl] at k1
      replace HLI := hid (HLI.out.keptC K M.r0 (chB_nb _ _ _ _ _ _ _ _ _ _))
      replace HGV := hid (HGV.out.keptC K M.r0 (chB_nb _ _ _ _ _ _ _ _ _ _))
      replace HPR := hid (HPR.out.keptC K M.r0 (chB_nb _ _ _ _ _ _ _ _ _ _))
      replace HAC := hid ((AccD.still _).keptC HAC.out K M.r0 (chB_nb _ _ _ _ _ _ _ _ _ _) (.inl rfl))
      replace HWZ := hid k2
      replace M := Mem.callPut (L1 := []) M (Or.inl (by simp)) K k1
      clear K k1 k2
      simp only [List.nil_append] at M
      go_wp2_with ((with_reducible apply W_buildV (d := 181) (v := .agg ((ad 5).map n8).toArray)); kernel_rfl; simp only [Act.put, List.setIfInBounds_toArray, List.set_cons_zero, List.set_cons_succ])
      refine (warm_any c 119 _ z4 (adWith (adWith (adWith (adWith [] (ad 240)) (ad 192)) ha7) (ad 4)) (ad 5) _ M.r0 (by kernel_rfl) HWZ.out ⟨rfl, (ad_small (by decide))⟩ (Nat.le_trans ((adW_le (adW_le (adW_le (adW_le (show ([] : List (List Nat)).length ≤ 0 from Nat.le_refl 0)))))) (by decide)) (by decide)).mono ?_
      rintro e w26 ⟨r, z5, rfl, K, k1, k2⟩
      rw [show (chB v2 z4 0 1 lim gv pr tvv (ad 240) ha7).setIfInBounds 1 z5 = (chB v2 z5 0 1 lim gv pr tvv (ad 240) ha7) from by kernel_rfl] at k1
      replace HLI := hid (HLI.out.keptC K M.r0 (chB_nb _ _ _ _ _ _ _ _ _ _))
      replace HGV := hid (HGV.out.keptC K M.r0 (chB_nb _ _ _ _ _ _ _ _ _ _))
      replace HPR := hid (HPR.out.keptC K M.r0 (chB_nb _ _ _ _ _ _ _ _ _ _))
      replace HAC := hid ((AccD.still _).keptC HAC.out K M.r0 (chB_nb _ _ _ _ _ _ _ _ _ _) (.inl rfl))
      replace HWZ := hid k2
      replace M := Mem.callPut (L1 := []) M (Or.inl (by simp)) K k1
      clear K k1 k2
      simp only [List.nil_append] at M
      go_wp2_with ((with_reducible apply W_loadCell); rfl; exact M.r3; exact (show (txC v pb cd).toArray[173]? = some (nilS) by kernel_rfl); exact Salg.underlying47; rfl; simp only [Act.put, List.setIfInBounds_toArray, List.set_cons_zero, List.set_cons_succ])
      go_loopw [186] (fun iv wx => iv = .int .i64 0 ∧ Mem w [c] [(c, .cells (chB v2 z5 0 1 lim gv pr tvv (ad 240) ha7) 119 (0, 0)), (t8, .cells (ha7.map n8).toArray 45 (0, 0)), (t7, .cells (⟨ad 240, [nv2, bv2, cu0, nilS]⟩ : Ac).cells.toArray 128 (0, 0)), (tb, .cells (txC v pb cd).toArray 49 (0, 0))] wx ∧ NumV wx lim 200000 ∧ NumV wx gv G ∧ NumV wx pr 0 ∧ AccD (dPut ⟨ad 240, 1, B - 0, []⟩ false (dPut ⟨ad 240, 1, B, []⟩ false D)) wx v2 ∧ AdsV wx z5 laC) (fun _ _ => 0)
      case atStart => exact ⟨rfl, M, HLI.out, HGV.out, HPR.out, HAC.out, HWZ.out⟩
      case round =>
        clear M HLI HGV HPR HAC HWZ
        obtain ⟨rfl, M, y1, y2, y3, y4, y5⟩ := hrel
        have HLI := hid y1
        have HGV := hid y2
        have HPR := hid y3
        have HAC := hid y4
        have HWZ := hid y5
        clear y1 y2 y3 y4 y5
        go_wp2_with ((with_reducible apply W_stV (b := c) (o := 10) (v := nilS)); rfl; rfl; exact rfl; exact M.r0; exact size40; exact Nat.le_of_ble_eq_true (by kernel_rfl); intro wS K hr3; rw [show (chB v2 z5 0 1 lim gv pr tvv (ad 240) ha7).setIfInBounds 10 (nilS) = (chB v2 z5 0 1 lim gv pr tvv (ad 240) ha7) from by kernel_rfl] at hr3; replace HLI := hid (HLI.out.keptC K M.r0 (chB_nb _ _ _ _ _ _ _ _ _ _)); replace HGV := hid (HGV.out.keptC K M.r0 (chB_nb _ _ _ _ _ _ _ _ _ _)); replace HPR := hid (HPR.out.keptC K M.r0 (chB_nb _ _ _ _ _ _ _ _ _ _)); replace HAC := hid ((AccD.still _).keptC HAC.out K M.r0 (chB_nb _ _ _ _ _ _ _ _ _ _) (.inl rfl)); replace HWZ := hid (HWZ.out.keptC K M.r0 (by decide)); replace M := Mem.callPut (L1 := []) M (Or.inl (by simp)) K hr3; clear K hr3; simp only [List.nil_append] at M)
        refine S_region (by kernel_rfl) ?_
        replace HLI := hid (HLI.out.kept (Kept.refl [] _).drew)
        replace HGV := hid (HGV.out.kept (Kept.refl [] _).drew)
        replace HPR := hid (HPR.out.kept (Kept.refl [] _).drew)
        replace HAC := hid ((AccD.still _).kept HAC.out (Kept.refl [] _).drew)
        replace HWZ := hid (HWZ.out.kept (Kept.refl [] _).drew)
        refine E_float 0 12 [0, 1, 2, 3, 4, 5, 7, 8, 9, 6, 10] 11 17 _ (by kernel_rfl) ⟨⟨_, _, _, _, _, rfl, zero142, rfl⟩⟩ (by intro x hx; simp only [List.mem_singleton] at hx; subst hx; exact hcl) M.drew ?_
        clear M
        simp only [List.filterMap_cons, List.filterMap_nil, List.getElem?_cons_zero, List.getElem?_cons_succ]
        ((with_reducible apply E_run); rfl; rfl; (intro w M; go_simp; (try go_ints); (try simp only [↓IntWalk.iteOmega]); (try with_reducible rfl)); simp only [Act.put, List.setIfInBounds_toArray, List.set_cons_zero, List.set_cons_succ])
        ((with_reducible apply E_run); rfl; rfl; (intro w M; go_simp; (try go_ints); (try simp only [↓IntWalk.iteOmega]); (try with_reducible rfl)); simp only [Act.put, List.setIfInBounds_toArray, List.set_cons_zero, List.set_cons_succ])
        ((with_reducible apply E_run); rfl; rfl; (intro w M; go_simp; (try go_ints); (try simp only [↓IntWalk.iteOmega]); (try with_reducible rfl)); simp only [Act.put, List.setIfInBounds_toArray, List.set_cons_zero, List.set_cons_succ])
        ((with_reducible apply E_run); rfl; rfl; (intro w M; exact run_loadCell (M.r0) rfl (show (chB v2 z5 0 1 lim gv pr tvv (ad 240) ha7)[15]? = some gv by kernel_rfl) Salg.underlying89 rfl); simp only [Act.put, List.setIfInBounds_toArray, List.set_cons_zero, List.set_cons_succ])
        ((with_reducible apply E_run); rfl; rfl; (intro w M; go_simp; (try go_ints); (try simp only [↓IntWalk.iteOmega]); (try with_reducible rfl)); simp only [Act.put, List.setIfInBounds_toArray, List.set_cons_zero, List.set_cons_succ])
        ((with_reducible apply E_run); rfl; rfl; (intro w M; exact run_sliceArr (l := 0) (h := 32) (m := 32) rfl Salg.underlying46 size5 (by (first | exact Or.inl ⟨rfl, rfl⟩ | exact Or.inr ⟨_, _, _, rfl, rfl, by omega⟩)) (by (first | exact Or.inl ⟨rfl, rfl⟩ | exact Or.inr ⟨_, _, _, rfl, rfl, by omega⟩)) (by (first | exact Or.inl ⟨rfl, rfl⟩ | exact Or.inr ⟨_, _, _, rfl, rfl, by omega⟩)) (by first | exact Or.inl rfl | exact Or.inr rfl) (by omega) (by omega) (by omega) (by omega)); (try simp only [Nat.zero_add, Nat.sub_zero]); simp only [Act.put, List.setIfInBounds_toArray, List.set_cons_zero, List.set_cons_succ])
        ((with_reducible apply E_run); rfl; rfl; (intro w M; exact run_loadAll M.r1 rfl Salg.underlying45 rfl size45); simp only [Act.put, List.setIfInBounds_toArray, List.set_cons_zero, List.set_cons_succ])
        ((with_reducible apply E_run); rfl; rfl; (intro w M; go_simp; (try go_ints); (try simp only [↓IntWalk.iteOmega]); (try with_reducible rfl)); simp only [Act.put, List.setIfInBounds_toArray, List.set_cons_zero, List.set_cons_succ])
        ((with_reducible apply E_run (v := .agg ((ad 240).map n8).toArray)); rfl; rfl; (intro w M; exact run_loadX (n := 20) M.r3 rfl Salg.underlying45 rfl size45 (Nat.le_of_ble_eq_true (by kernel_rfl)) (show (txC v pb cd).toArray.extract 0 (0 + 20) = _ by kernel_rfl)); simp only [Act.put, List.setIfInBounds_toArray, List.set_cons_zero, List.set_cons_succ])
        refine E_call rfl Salg.func64 (by kernel_rfl) (by kernel_rfl) (args := [.slice (some ⟨tb, 75, none⟩) 32 32]) rfl ?_
        intro w1 K M
        replace HLI := hid (HLI.out.kept K)
        replace HGV := hid (HGV.out.kept K)
        replace HPR := hid (HPR.out.kept K)
        replace HAC := hid ((AccD.still _).kept HAC.out K)
        replace HWZ := hid (HWZ.out.kept K)
        clear K
        refine (fromBE_at tb 75 49 32 _ (padN v) _ M.r3 (tx_valC v pb cd) (Nat.le_of_ble_eq_true rfl) (padN_small hvl)).mono ?_
        rintro e w27 ⟨fv, rfl, xHFV, K⟩
        replace HLI := hid (HLI.out.kept K)
        replace HGV := hid (HGV.out.kept K)
        replace HPR := hid (HPR.out.kept K)
        replace HAC := hid ((AccD.still _).kept HAC.out K)
        replace HWZ := hid (HWZ.out.kept K)
        have HFV := hid xHFV
        replace M := M.call K
        refine ⟨_, rfl, K.mono (by simp), M, ?_⟩
        clear K xHFV
        simp only [Act.put, List.setIfInBounds_toArray, List.set_cons_zero, List.set_cons_succ]
        rw [padN_be] at HFV
        have HFV1 := hid HFV.out.one
        ((with_reducible apply E_run (v := .agg (frG 0 false gv fv nilS nilS ha7 (ad 240) wnil).toArray)); rfl; rfl; (intro w M; obtain ⟨p0, q0, s0, e0⟩ := HGV.out.slice; subst e0; obtain ⟨p1, q1, s1, e1⟩ := HFV.out.slice; subst e1; kernel_rfl); simp only [Act.put, List.setIfInBounds_toArray, List.set_cons_zero, List.set_cons_succ])
        refine E_nil ?_
        intro w28 K M
        replace HLI := hid (HLI.out.kept K)
        replace HGV := hid (HGV.out.kept K)
        replace HPR := hid (HPR.out.kept K)
        replace HAC := hid ((AccD.still _).kept HAC.out K)
        replace HWZ := hid (HWZ.out.kept K)
        replace HFV := hid (HFV.out.kept K)
        clear K
        intro t17 w29 K ht17 M
        replace HLI := hid (HLI.out.kept K)
        replace HGV := hid (HGV.out.kept K)
        replace HPR := hid (HPR.out.kept K)
        replace HAC := hid ((AccD.still _).kept HAC.out K)
        replace HWZ := hid (HWZ.out.kept K)
        replace HFV := hid (HFV.out.kept K)
        clear K
        simp only [Act.put, List.setIfInBounds_toArray, List.set_cons_zero, List.set_cons_succ]
        refine S_seg 12 13 (by kernel_rfl) (by decide) ?_
        simp only [List.take_succ_cons, List.take_zero, List.drop_zero, List.drop_succ_cons, Nat.sub_zero, Nat.reduceSub]
        have HGV1 := hid HGV.out.one
        go_wp2_with ((with_reducible apply W_storeK (b := t17) (vs := (frG 0 false gv fv nilS nilS ha7 (ad 240) wnil).toArray)); rfl; rfl; exact M.r0; exact size142; rfl; exact frG_oneNL HGV1.out HFV1.out rfl rfl; intro w30 K hr3; replace HLI := hid (HLI.out.keptC K M.r0 (not_bytes_at (i := 3) (p := none) (n := 0) (m := 0) (by kernel_rfl))); replace HGV := hid (HGV.out.keptC K M.r0 (not_bytes_at (i := 3) (p := none) (n := 0) (m := 0) (by kernel_rfl))); replace HPR := hid (HPR.out.keptC K M.r0 (not_bytes_at (i := 3) (p := none) (n := 0) (m := 0) (by kernel_rfl))); replace HAC := hid ((AccD.still _).keptC HAC.out K M.r0 (not_bytes_at (i := 3) (p := none) (n := 0) (m := 0) (by kernel_rfl)) (.inr rfl)); replace HWZ := hid (HWZ.out.keptC K M.r0 (by decide)); replace HFV := hid (HFV.out.keptC K M.r0 (not_bytes_at (i := 3) (p := none) (n := 0) (m := 0) (by kernel_rfl))); replace M := Mem.callPut (L1 := []) M (Or.inr ht17) K hr3; clear K hr3; simp only [List.nil_append] at M)
        refine S_done ?_
        go_wp2_with (first
          | ((with_reducible apply W_loadCell); rfl; exact M.r4; exact (show (txC v pb cd).toArray[40]? = some (.bool true) by kernel_rfl); exact Salg.underlying4; rfl; simp only [Act.put, List.setIfInBounds_toArray, List.set_cons_zero, List.set_cons_succ])
          | ((with_reducible apply W_stV (b := t17) (o := 0) (v := .int .u8 1)); rfl; rfl; exact rfl; exact M.r0; exact size5; exact Nat.le_of_ble_eq_true (by kernel_rfl); intro wS K hr3; replace HLI := hid (HLI.out.keptC K M.r0 (not_bytes_at (i := 3) (p := none) (n := 0) (m := 0) (by kernel_rfl))); replace HGV := hid (HGV.out.keptC K M.r0 (not_bytes_at (i := 3) (p := none) (n := 0) (m := 0) (by kernel_rfl))); replace HPR := hid (HPR.out.keptC K M.r0 (not_bytes_at (i := 3) (p := none) (n := 0) (m := 0) (by kernel_rfl))); replace HAC := hid ((AccD.still _).keptC HAC.out K M.r0 (not_bytes_at (i := 3) (p := none) (n := 0) (m := 0) (by kernel_rfl)) (.inr rfl)); replace HWZ := hid (HWZ.out.keptC K M.r0 (by decide)); replace HFV := hid (HFV.out.keptC K M.r0 (not_bytes_at (i := 3) (p := none) (n := 0) (m := 0) (by kernel_rfl))); rw [show ((frG 0 false gv fv nilS nilS ha7 (ad 240) wnil).toArray).setIfInBounds 0 (.int .u8 1) = (frG 1 false gv fv nilS nilS ha7 (ad 240) wnil).toArray from by kernel_rfl] at hr3; replace M := Mem.callPut (L1 := []) M (Or.inr ht17) K hr3; clear K hr3; simp only [List.nil_append] at M)
          | ((with_reducible apply W_loadCell); rfl; exact M.r4; exact (show (txC v pb cd).toArray[107]? = some ((Value.slice (some ⟨pb, 0, none⟩) 19 cd)) by kernel_rfl); exact Salg.underlying40; rfl; simp only [Act.put, List.setIfInBounds_toArray, List.set_cons_zero, List.set_cons_succ]))
        refine (bytesOf_all (Value.slice (some ⟨pb, 0, none⟩) 19 cd) probeL _ (HDVX.out.keptN M.kept HX.out)).mono ?_
        rintro e w33 ⟨cw, rfl, xHCW, K⟩
        replace HLI := hid (HLI.out.kept K)
        replace HGV := hid (HGV.out.kept K)
        replace HPR := hid (HPR.out.kept K)
        replace HAC := hid ((AccD.still _).kept HAC.out K)
        replace HWZ := hid (HWZ.out.kept K)
        replace HFV := hid (HFV.out.kept K)
        have HCW := hid xHCW
        replace M := M.call K
        clear K xHCW
        have HCW1 := hid HCW.out.one
        go_wp2_with (first
          | ((with_reducible apply W_stV (b := t17) (o := 10) (v := cw)); rfl; rfl; exact HCW1.out; exact M.r0; exact size40; exact Nat.le_of_ble_eq_true (by kernel_rfl); intro wS K hr3; replace HLI := hid (HLI.out.keptC K M.r0 (not_bytes_at (i := 3) (p := none) (n := 0) (m := 0) (by kernel_rfl))); replace HGV := hid (HGV.out.keptC K M.r0 (not_bytes_at (i := 3) (p := none) (n := 0) (m := 0) (by kernel_rfl))); replace HPR := hid (HPR.out.keptC K M.r0 (not_bytes_at (i := 3) (p := none) (n := 0) (m := 0) (by kernel_rfl))); replace HAC := hid ((AccD.still _).keptC HAC.out K M.r0 (not_bytes_at (i := 3) (p := none) (n := 0) (m := 0) (by kernel_rfl)) (.inr rfl)); replace HWZ := hid (HWZ.out.keptC K M.r0 (by decide)); replace HFV := hid (HFV.out.keptC K M.r0 (not_bytes_at (i := 3) (p := none) (n := 0) (m := 0) (by kernel_rfl))); replace HCW := hid (HCW.out.keptC K M.r0 (not_bytes_at (i := 3) (p := none) (n := 0) (m := 0) (by kernel_rfl))); rw [show ((frG 1 false gv fv nilS nilS ha7 (ad 240) wnil).toArray).setIfInBounds 10 (cw) = (frG 1 false gv fv cw nilS ha7 (ad 240) wnil).toArray from by kernel_rfl] at hr3; replace M := Mem.callPut (L1 := []) M (Or.inr ht17) K hr3; clear K hr3; simp only [List.nil_append] at M)
          | ((with_reducible apply W_loadAll); rfl; exact M.r2; exact Salg.underlying45; rfl; exact size45; simp only [Act.put, List.setIfInBounds_toArray, List.set_cons_zero, List.set_cons_succ]))
        refine (taken_M c _ v2 (dPut ⟨ad 240, 1, B - 0, []⟩ false (dPut ⟨ad 240, 1, B, []⟩ false D)) ha7 _ M.r1 (by kernel_rfl) HAC.out rfl HDN.out).mono ?_
        rintro e w35 ⟨rfl, K⟩
        replace HLI := hid (HLI.out.kept K)
        replace HGV := hid (HGV.out.kept K)
        replace HPR := hid (HPR.out.kept K)
        replace HAC := hid ((AccD.still _).kept HAC.out K)
        replace HWZ := hid (HWZ.out.kept K)
        replace HFV := hid (HFV.out.kept K)
        replace HCW := hid (HCW.out.kept K)
        replace M := M.call K
        clear K 
        go_wp2_with (first
          | ((with_reducible apply W_stV (b := c) (o := 11) (v := .int .u8 1)); rfl; rfl; exact rfl; exact M.r1; exact size5; exact Nat.le_of_ble_eq_true (by kernel_rfl); intro wS K hr3; rw [show (chB v2 z5 0 1 lim gv pr tvv (ad 240) ha7).setIfInBounds 11 (.int .u8 1) = (chB v2 z5 1 1 lim gv pr tvv (ad 240) ha7) from by kernel_rfl] at hr3; replace HLI := hid (HLI.out.keptC K M.r1 (chB_nb _ _ _ _ _ _ _ _ _ _)); replace HGV := hid (HGV.out.keptC K M.r1 (chB_nb _ _ _ _ _ _ _ _ _ _)); replace HPR := hid (HPR.out.keptC K M.r1 (chB_nb _ _ _ _ _ _ _ _ _ _)); replace HAC := hid ((AccD.still _).keptC HAC.out K M.r1 (chB_nb _ _ _ _ _ _ _ _ _ _) (.inl rfl)); replace HWZ := hid (HWZ.out.keptC K M.r1 (by decide)); replace HFV := hid (HFV.out.keptC K M.r1 (chB_nb _ _ _ _ _ _ _ _ _ _)); replace HCW := hid (HCW.out.keptC K M.r1 (chB_nb _ _ _ _ _ _ _ _ _ _)); replace M := Mem.callPut (L1 := [(t17, _)]) M (Or.inl (by simp)) K hr3; clear K hr3; simp only [List.nil_append, List.cons_append] at M)
          | ((with_reducible apply W_loadAll); rfl; exact M.r0; exact Salg.underlying142; rfl; exact (by kernel_rfl); simp only [Act.put, List.setIfInBounds_toArray, List.set_cons_zero, List.set_cons_succ]))
        obtain ⟨EE, hEE⟩ : ∃ EE : XEnv, EE = ⟨v2, lim, gv, pr, tvv, nilS, ha7⟩ := ⟨_, rfl⟩
        have HZ2 := M.r1
        rw [← chB_NC] at HZ2
        have HC := hid (show ChY _ c ⟨v2, lim, gv, pr, tvv, nilS, ha7⟩ nilS nilS laC from ⟨z5, HZ2, HWZ.out⟩)
        clear HZ2
        have HAC2 := hid (show AccD (dPut ⟨ad 240, 1, B - 0, []⟩ false (dPut ⟨ad 240, 1, B, []⟩ false D)) _ (XEnv.vz ⟨v2, lim, gv, pr, tvv, nilS, ha7⟩) from HAC.out)
        rw [← hEE] at HC HAC2
        have hla : laC.length ≤ 5 := by decide
        have HXE : Hid (Hard [c] _) := hard1 M.r1 (.inl rfl) (chB_nb _ _ _ _ _ _ _ _ _ _)
        have hmd : EE.md = nilS := by rw [hEE]
        have HEE := hid hEE
        clear hEE
        refine (enterC0 c 0 0 1 240 ha7 false #[] _ EE nilS gv fv cw nilS (AccD (dPut ⟨ha7, d2.N, d2.B + v, d2.ds⟩ false (dPut ⟨ad 240, ds0.N, ds0.B - v, ds0.ds⟩ false (dPut ⟨ha7, 1, 0, []⟩ false (dPut ⟨ad 240, 1, B - 0, []⟩ false (dPut ⟨ad 240, 1, B, []⟩ false D)))))) _ HC.out (AccD.still _) HGV1.out HFV1.out HCW1.out rfl (by decide) (fun w => creates_one w) rfl small_ha7 hmd (AccD (dPut ⟨ha7, 1, 0, []⟩ false (dPut ⟨ad 240, 1, B - 0, []⟩ false (dPut ⟨ad 240, 1, B, []⟩ false D)))) (AccD.still _) (fun w' K' => clone_D c EE _ nilS _ [] (dPut ⟨ad 240, 1, B - 0, []⟩ false (dPut ⟨ad 240, 1, B, []⟩ false D)) w' (HC.out.kept K') ((AccD.still _).kept HAC2.out K') h02 (by omega) (adWith_pos _ _) (by unfold laC at hla ⊢; omega) (.inl hmd)) (fun w' n1 K' hn1 => setNonce_Y c EE _ nilS n1 _ (dPut ⟨ad 240, 1, B - 0, []⟩ false (dPut ⟨ad 240, 1, B, []⟩ false D)) ha7 w' (HC.out.kept K') ((AccD.still _).kept HAC2.out K') rfl small_ha7 hn1 HDN.out (by omega)) (fun w' vz1 md K' hC' hA' => move_V c v (ad 240) ha7 _ _ nilS fv _ (dPut ⟨ha7, 1, 0, []⟩ false (dPut ⟨ad 240, 1, B - 0, []⟩ false (dPut ⟨ad 240, 1, B, []⟩ false D))) ds0 d2 w' hC' hA' rfl rfl smallAd240 small_ha7 HDS.out hsB hsV (HFV.out.keptN K' HXE.out) HV0.out HN1.out HN2d.out HD2.out hB2 (by omega) hll1)).mono ?_
        rintro e w36 ⟨r36, fb, cap, cur, a0, a1, a3, a6, vz', md, rfl, y0, y1, y2, y3, y4, y5, y6, y7, y8a, y8b, y8c, y8d, y9, yk⟩
        have hX2 : Hard [c] _ := hard1 M.r1 (.inl rfl) (chB_nb _ _ _ _ _ _ _ _ _ _)
        have Y1 := hid y1
        have Y2 := hid y2
        have Y4 := hid y4
        have Y9 := hid y9
        have YK := hid yk
        have G1 := hid (HGV.out.keptN yk hX2)
        have G2 := hid (HFV.out.keptN yk hX2)
        have G3 := hid (HCW.out.keptN yk hX2)
        have G4 := hid (HLI.out.keptN yk hX2)
        have G5 := hid (HPR.out.keptN yk hX2)
        have HMK := hid M.kept
        clear y1 y2 y4 y9 yk hX2 M
        go_wp2_with fail
        go_ret
        have hE := HEE.out
        refine ⟨fb, cap, G, cur, { EE with vz := vz', md := md }, gv, fv, cw, nilS, a0, a1, a3, a6, rfl, Y1.out, Y2.out, Nat.le_trans HMK.out.size y3, Y4.out, y5, y6, y7, ⟨y8a, y8b, y8c, y8d⟩, HGG.out.1, HGG.out.2, G1.out, G2.out, G3.out, NatV.nil _, Y9.out, y0, by rw [hE], by rw [hE], by rw [hE]; exact G4.out, by rw [hE]; exact G5.out, by rw [hE]; exact HGV1.out, HMK.out.trans YK.out⟩
end Go.Proofs.YgcsalGreat

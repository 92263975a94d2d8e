/-
  The walk of (*yp.State).enter at CALL.
-/
import Derived.Test.YgcsalGreatCp16
import Derived.Test.YgcsalGreatSl30
import Derived.Test.YgcsalGreatSl41
set_option linter.unusedSimpArgs false
set_option linter.unusedVariables false
namespace Go.Own
section
variable {P : Program} {a : Act} {w : World}
/-- append: the row's own block, or a new one. -/
theorem run_appendX {d : Tmp} {s1 s2 : Operand} {t e ty : TypeId} {pos : String} {after : Array Edge} {base n m s by1 bn so cap : Nat} {z v : Value} {xs news : List Value} {cs : Array Value} {tn : TypeId} {fr : Nat × Nat}
    (hinfo : (P.info? e).map (fun i => (i.zero, i.size, i.bytes)) = some (some z, s, by1)) (hu : P.underlying t = some (.slice e)) (hzs : z.cells.size = s) (h0 : 0 < s) (hby : by1 ≤ 100000)
    (hs1 : a.eval s1 = v) (hs2 : a.eval s2 = .slice (some ⟨bn, so, none⟩) m cap) (hown : w.ownsRow base e s v n xs) (hn : n + m ≤ 1000000) (hr : w.heap[bn]? = some (.cells cs tn fr)) (hl : news.length = m * s) (hc : ∀ (j : Nat) (u : Value), news[j]? = some u → cs[so + j]? = some u) (h1 : ∀ u ∈ news, u.oneCell' = true)
    (hbw : base ≤ w.heap.size) :
    ∃ v' w', (execOp a.eval { dst := some d, op := .call { callee := .builtin .append, args := #[s1, s2], argTypes := #[t, t] }, type := ty, pos := pos, after := after, guard := none }).run P w = .ok (.value v') w' ∧ w'.ownsRow base e s v' (n + m) (xs ++ news) ∧ Kept v.ownBlock.toList w w' ∧ (∀ b, v'.ownBlock = some b → v.ownBlock = some b ∨ w.heap.size ≤ b) := by
  rcases hown.2 with ⟨hv, hn0⟩ | ⟨g, cp, cur, hv, hbg, hg, hnc, hcm, hcs, htake⟩
  · subst hv
    subst hn0
    have hx : xs = [] := List.eq_nil_of_length_eq_zero (by simpa using hown.1)
    subst hx
    obtain ⟨v', w', h2, h3, h4⟩ := run_appendIt (P := P) (a := a) (w := w) (base := w.heap.size) (d := some d) (ty := ty) (pos := pos) (after := after) (gg := none) hinfo hu hzs h0 hby hs1 hs2 (own_nil _ _ _ _) hn hr hl hc h1 (Nat.le_refl _)
    exact ⟨v', w', h2, own_mono h3 hbw, h4, fun b hb => .inr (own_block h3 hb).1⟩
  · subst hv
    by_cases hroom : n + m ≤ cp
    · obtain ⟨v', w', h2, h3, h4⟩ := run_appendIt (P := P) (a := a) (w := w) (base := base) (d := some d) (ty := ty) (pos := pos) (after := after) (gg := none) hinfo hu hzs h0 hby hs1 hs2 hown hn hr hl hc h1 hbw
      refine ⟨v', w', h2, h3, h4, fun b hb => .inl ?_⟩
      cases hie : P.info? e with
      | none => simp [hie] at hinfo
      | some ie =>
        simp only [hie, Option.map_some, Option.some.injEq, Prod.mk.injEq] at hinfo
        obtain ⟨i1, i2, i3⟩ := hinfo
        subst i2
        have hfit : n * ie.size + news.length ≤ cur.size := by rw [hl, hcs, ← Nat.add_mul]; exact Nat.mul_le_mul_right _ hroom
        have hrm := run_append_room (P := P) w t ty e ie hu hie g n cp cur hg ⟨bn, so, none⟩ m cap news hl (by
          intro j u hj
          rw [Addr.add_mid, cell_of_row hr]
          exact hc j u hj) h1 hroom hfit
        have h5 : (execOp a.eval { dst := some d, op := .call { callee := .builtin .append, args := #[s1, s2], argTypes := #[t, t] }, type := ty, pos := pos, after := after, guard := none }).run P w = .ok (.value (.slice (some ⟨g, 0, none⟩) (n + m) cp)) (w.setRow g (cur.toList.take (n * ie.size) ++ news ++ cur.toList.drop (n * ie.size + news.length)).toArray) := by
          simp only [execOp, resolve, invoke, builtin, Sem.run_bind, Sem.run_pure, Result.andThen_ok, List.map_toArray, List.map_cons, List.map_nil, hs1, hs2, hrm]
        rw [h5] at h2
        injection h2 with h6 h7
        injection h6 with h6
        subst h6
        exact hb
    · obtain ⟨v', w', h2, h3, h4⟩ := run_appendG (P := P) (a := a) (w := w) (d := some d) (ty := ty) (pos := pos) (after := after) (gg := none) hinfo hu hzs h0 hby hs1 hs2 hg hown.1 (by
        intro j u hj
        rw [← htake, List.getElem?_take] at hj
        split at hj
        · simpa using hj
        · cases hj) hn (by omega) hr hl hc
      exact ⟨v', w', h2, own_mono h3 hbw, h4.mono (by simp), fun b hb => .inr (own_block h3 hb).1⟩
end
section
variable {P : Program} {w0 : World} {X : List Nat} {L : List (Nat × Obj)} {C : World → World → Prop} {A : Array Oper} {F : Act → World → Prop} {a : Act} {w : World} {rest : List Oper}
theorem E_appendY {d : Tmp} {s1 s2 : Operand} {t e ty : TypeId} {pos : String} {after : Array Edge} {base n m s by1 bn so cap : Nat} {z v : Value} {xs news : List Value} {cs : Array Value} {tn : TypeId} {fr : Nat × Nat}
    (hinfo : (P.info? e).map (fun i => (i.zero, i.size, i.bytes)) = some (some z, s, by1)) (hu : P.underlying t = some (.slice e)) (hzs : z.cells.size = s) (h0 : 0 < s) (hby : by1 ≤ 100000)
    (hs1 : a.eval s1 = v) (hs2 : a.eval s2 = .slice (some ⟨bn, so, none⟩) m cap) (hown : w.ownsRow base e s v n xs) (hn : n + m ≤ 1000000) (hr : w.heap[bn]? = some (.cells cs tn fr)) (hl : news.length = m * s) (hc : ∀ (j : Nat) (u : Value), news[j]? = some u → cs[so + j]? = some u) (h1 : ∀ u ∈ news, u.oneCell' = true)
    (hbw : base ≤ w.heap.size) (hb : ∀ q, v.ownBlock = some q → q ∈ X ∨ w0.heap.size ≤ q) (hL : ∀ p ∈ L, v.ownBlock ≠ some p.1)
    (k : ∀ v' w1 w', Kept [] w w1 → Mem w0 X L w' → w'.ownsRow base e s v' (n + m) (xs ++ news) → Kept v.ownBlock.toList w1 w' → (∀ b, v'.ownBlock = some b → v.ownBlock = some b ∨ w.heap.size ≤ b) → EV P w0 X L (fun _ _ => True) A F rest (a.put (some d) v') w') :
    EV P w0 X L (fun _ _ => True) A F ({ dst := some d, op := .call { callee := .builtin .append, args := #[s1, s2], argTypes := #[t, t] }, type := ty, pos := pos, after := after, guard := none } :: rest) a w := by
  refine E_eff (by simp [Region.wanted]) rfl fun w1 K M => ?_
  obtain ⟨v', w', h2, h3, h4, h5⟩ := run_appendX (P := P) (a := a) (w := w1) (d := d) (ty := ty) (pos := pos) (after := after) hinfo hu hzs h0 hby hs1 hs2 (own_kept hown K) hn (K.row hr (by simp)) hl hc h1 (Nat.le_trans hbw K.size)
  have hM := M.own' h4 hb hL
  exact ⟨v', w', h2, trivial, hM, k v' w1 w' K hM h3 h4 fun b hb => (h5 b hb).imp id fun h => Nat.le_trans K.size h⟩
end
/-- A frame of CALL. -/
def frX (gv vv cu iu : Value) (sv : List Value) : List Value := [.int .u8 2, .int .u8 0, .bool false, nilS, gv, vv, nilS, nilS, nilS, nilS, cu, iu] ++ ((ad 2).map n8 ++ ((ad 1).map n8 ++ sv))
theorem frX_one4 {gv vv cu iu a0 a1 a2 a3 : Value} (h1 : gv.oneCell' = true) (h2 : vv.oneCell' = true) (h3 : cu.oneCell' = true) (h4 : iu.oneCell' = true) (h5 : a0.oneCell' = true) (h6 : a1.oneCell' = true) (h8 : a2.oneCell' = true) (h7 : a3.oneCell' = true) : ∀ u ∈ frX gv vv cu iu (wrow4 a0 a1 a2 a3), u.oneCell' = true := by
  apply one_list
  have e : ((frX gv vv cu iu (wrow4 a0 a1 a2 a3)).all fun u => u.oneCell') = (gv.oneCell' && (vv.oneCell' && (cu.oneCell' && (iu.oneCell' && (a0.oneCell' && (a1.oneCell' && (a2.oneCell' && (a3.oneCell' && true)))))))) := by kernel_rfl
  rw [e, h1, h2, h3, h4, h5, h6, h8, h7]
  rfl
end Go.Own
namespace Go.Proofs.YgcsalGreat
open Go.RowKit Go.Own

set_option maxHeartbeats 4000000 in
set_option maxRecDepth 100000 in
theorem creates_two (w : World) : Calls Salg.prog 172 #[.int .u8 2] w fun e w' => e = .returned (.bool false) ∧ w' = w := by
  go_enter Salg.func172, Salg.ntmps172
  go_wp2_with fail
  go_ret
  exact ⟨rfl, rfl⟩

set_option maxHeartbeats 4000000 in
set_option maxRecDepth 100000 in
theorem move_12 (c tc : Nat) (cs : Array Value) (va nv bv cu sl nvb bvb cub nv2 bv2 fv : Value) (B2 : Nat) (w : World) (hc : w.heap[c]? = some (.cells cs tc (0, 0))) (c0 : cs[0]? = some va) (hv : AcsV w va (l3 nv bv cu sl nvb bvb cub nv2 bv2)) (hb2 : NumV w bv B2) (hB : B2 < 256 ^ 200) (hf : NumV w fv 0) :
    Calls Salg.prog 173 #[.pointer (some ⟨c, 0, none⟩), A8 (ad 1), A8 (ad 2), fv] w fun e w' => ∃ r, e = .returned r ∧ Kept [] w w' := by
  have M := Mem.start w []
  have HA := hid hv
  have HB2 := hid hb2
  have HF := hid hf
  clear hv hb2 hf
  go_enter Salg.func173, Salg.ntmps173
  go_wp2_with (first
    | ((with_reducible apply L_box (d := 5) M); rfl; clear M; intro t5 w1 ht5 M; simp only [Act.put, List.setIfInBounds_toArray, List.set_cons_zero, List.set_cons_succ])
    | ((with_reducible apply L_box (d := 6) M); rfl; clear M; intro t6 w2 ht6 M; simp only [Act.put, List.setIfInBounds_toArray, List.set_cons_zero, List.set_cons_succ])
    | ((with_reducible apply W_loadAll); rfl; exact M.r1; exact Salg.underlying45; rfl; exact size45; simp only [Act.put, List.setIfInBounds_toArray, List.set_cons_zero, List.set_cons_succ]))
  refine (account_1 c tc _ va nv bv cu sl nvb bvb cub nv2 bv2 _ (M.kept.row hc (by simp)) c0 (HA.out.kept M.kept)).mono ?_
  rintro e w3 ⟨rfl, K⟩
  replace M := M.call K
  clear K
  go_wp2_with ((with_reducible apply W_field (v := bv)); kernel_rfl; simp only [Act.put, List.setIfInBounds_toArray, List.set_cons_zero, List.set_cons_succ])
  refine (sub_num bv fv B2 0 _ (HB2.out.kept M.kept) (HF.out.kept M.kept) hB (Nat.zero_le _)).mono ?_
  rintro e w4 ⟨r1, rfl, xHR1, K⟩
  have HR1 := hid xHR1
  replace M := M.call K
  clear K xHR1
  go_wp2_with fail
  refine (isZero_any fv 0 _ (HF.out.kept M.kept)).mono ?_
  rintro e w5 ⟨rfl, K⟩
  replace M := M.call K
  clear K
  go_wp2_with fail
  ((try simp only [Exit.inBlock, Exit.then]); refine bodyPost_ret (results_none rfl _ _ _) rfl ?_)
  exact ⟨_, rfl, M.kept⟩
theorem clone_X (c : Nat) (E : CEnv) (fr rt : Value) (la : List (List Nat)) (ds1 ds2 : List Nat) (w : World) (hC : ChX w c E fr rt la) (hSt : StatW w E ds1 ds2) (hl0 : 0 < la.length) (hl : la.length ≤ 20) :
    Calls Salg.prog 171 #[.pointer (some ⟨c, 0, none⟩)] w fun e w' => ∃ a0 a1 a2 a3 : Value, e = .returned (.agg (wrow4 a0 a1 a2 a3).toArray) ∧ WorldS w' a0 a1 a2 a3 la none none 0 ds1 ds2 ∧ Kept [] w w' := by
  obtain ⟨wz, c1, c2⟩ := hC
  exact clone3_nn c 119 _ E.vz wz nilS nilS E.nv E.bv E.cu nilS E.nv2 E.bv2 E.cu2 E.nv3 E.bv3 1 0 1 0 1 _ 0 0 0 ds1 ds2 la w c1 (by kernel_rfl) (by kernel_rfl) (by kernel_rfl) (by kernel_rfl) (by kernel_rfl) (by kernel_rfl) (by kernel_rfl) (by kernel_rfl) hSt.acs c2 hl0 hl rfl rfl (nil_num _) hSt.nv hSt.bv hSt.cu hSt.nv2 hSt.bv2 hSt.cu2 hSt.nv3 hSt.bv3
theorem move_X (c : Nat) (E : CEnv) (fr rt fv : Value) (la : List (List Nat)) (ds1 ds2 : List Nat) (w : World) (hC : ChX w c E fr rt la) (hSt : StatW w E ds1 ds2) (hf : NumV w fv 0) :
    Calls Salg.prog 173 #[.pointer (some ⟨c, 0, none⟩), A8 (ad 1), A8 (ad 2), fv] w fun e w' => ∃ r, e = .returned r ∧ Kept [] w w' := by
  obtain ⟨wz, c1, c2⟩ := hC
  exact move_12 c 119 _ E.vz E.nv E.bv E.cu nilS E.nv2 E.bv2 E.cu2 E.nv3 E.bv3 fv 0 w c1 (by kernel_rfl) hSt.acs hSt.bv (by decide) hf

set_option maxHeartbeats 4000000 in
set_option maxRecDepth 100000 in
theorem enter_X (c fb cap : Nat) (fs : Array Value) (la : List (List Nat)) (ds1 ds2 : List Nat) (E : CEnv) (rt gv vv cu iu : Value) (w : World) (hC : ChX w c E (.slice (some ⟨fb, 0, none⟩) 1 cap) rt la) (hSt : StatW w E ds1 ds2) (hl0 : 0 < la.length) (hl : la.length ≤ 20) (hr : w.heap[fb]? = some (.cells fs 142 (0, 0))) (hnb : ∀ t l, Obj.cells fs 142 (0, 0) ≠ R8 t l) (hsz : fs.size = cap * 60) (hcap : cap ≤ maxLen) (hc1 : 1 ≤ cap) (g1 : gv.oneCell' = true) (g2 : NumV w vv 0) (g3 : cu.oneCell' = true) (g4 : iu.oneCell' = true) :
    Calls Salg.prog 98 #[.pointer (some ⟨c, 0, none⟩), .agg (frX gv vv cu iu (wrow nilS nilS nilS)).toArray] w fun e w' => ∃ (r : Value) (fb' cap' : Nat) (cur : Array Value) (a0 a1 a2 a3 : Value), e = .returned r ∧ ChX w' c E (.slice (some ⟨fb', 0, none⟩) 2 cap') nilS la ∧ w'.heap[fb']? = some (.cells cur 142 (0, 0)) ∧ (fb' = fb ∨ w.heap.size ≤ fb') ∧ (∀ k, k < 60 → cur[k]? = fs[k]?) ∧ (∀ k, k < 60 → cur[60 + k]? = (frX gv vv cu iu (wrow4 a0 a1 a2 a3))[k]?) ∧ cur.size = cap' * 60 ∧ cap' ≤ maxLen ∧ 2 ≤ cap' ∧ WorldS w' a0 a1 a2 a3 la none none 0 ds1 ds2 ∧ (∀ v ds, NatV w v ds → NatV w' v ds) ∧ Kept [c, fb] w w' := by
  have M := Mem.start w []
  have HCL := hid (fun w' (K1 : Kept [] w w') => clone_X c E _ rt la ds1 ds2 w' (hC.kept K1) (hSt.kept K1) hl0 hl)
  have HMV := hid (fun w' (K1 : Kept [] w w') => move_X c E _ rt vv la ds1 ds2 w' (hC.kept K1) (hSt.kept K1) (g2.kept K1))
  have hvo := g2.one
  have hfl := lt_of_row hr
  have HC := hid hC
  have HNB := hid hnb
  have hfc : fb ∉ [c] := by
    obtain ⟨wz, c1, c2⟩ := hC
    exact row_ne c1 hr (by rintro h; cases h)
  clear hC hSt g2
  go_enter Salg.func98, Salg.ntmps98
  go_wp2_with ((with_reducible apply L_box M); rfl; clear M; intro t3 w1 ht3 M; simp only [Act.put, List.setIfInBounds_toArray, List.set_cons_zero, List.set_cons_succ])
  refine (HCL.out _ M.kept).mono ?_
  rintro e w2 ⟨a0, a1, a2, a3, rfl, xWW, K1⟩
  obtain ⟨y0, y1, y2, y3⟩ := WorldW.one xWW
  have X0 := hid y0
  have X1 := hid y1
  have X2 := hid y2
  have X3 := hid y3
  have HWS := hid xWW
  replace M := M.call K1
  clear K1 xWW y0 y1 y2 y3 HCL
  have HONE := hid (wrow4_oneL X0.out X1.out X2.out X3.out)
  have HNB3 := hid (not_bytes_at (cs := (frX gv vv cu iu (wrow nilS nilS nilS)).toArray) (tc := 142) (i := 3) (p := none) (n := 0) (m := 0) (by kernel_rfl))
  go_wp2_with (first
    | ((with_reducible apply W_stP (b := t3) (o := 52) (n := 8) (v := .agg (wrow4 a0 a1 a2 a3).toArray) (rs := (frX gv vv cu iu (wrow4 a0 a1 a2 a3)).toArray)); rfl; rfl; exact M.r0; exact size113; rfl; exact HONE.out; exact Nat.le_of_ble_eq_true (by kernel_rfl); kernel_rfl; intro w3 K1 hr3; replace HWS := hid (WorldW.keptC HWS.out K1 M.r0 HNB3.out wtype142); replace M := Mem.callPut (L1 := []) M (Or.inr ht3) K1 hr3; clear K1 hr3; simp only [List.nil_append] at M)
    | ((with_reducible apply W_loadCell); rfl; exact M.r0; exact (show (frX gv vv cu iu (wrow4 a0 a1 a2 a3)).toArray[0]? = some (.int .u8 2) by kernel_rfl); exact Salg.underlying5; rfl; simp only [Act.put, List.setIfInBounds_toArray, List.set_cons_zero, List.set_cons_succ]))
  refine (creates_two _).mono ?_
  rintro e w4 ⟨rfl, hw⟩
  replace hw := hw.symm
  subst hw
  go_wp2_with (first
    | ((with_reducible apply W_loadCell); rfl; exact M.r0; exact (show (frX gv vv cu iu (wrow4 a0 a1 a2 a3)).toArray[0]? = some (.int .u8 2) by kernel_rfl); exact Salg.underlying5; rfl; simp only [Act.put, List.setIfInBounds_toArray, List.set_cons_zero, List.set_cons_succ])
    | ((with_reducible apply W_loadCellG); rfl; rfl; exact M.r0; exact (show (frX gv vv cu iu (wrow4 a0 a1 a2 a3)).toArray[0]? = some (.int .u8 2) by kernel_rfl); exact Salg.underlying5; rfl; simp only [Act.put, List.setIfInBounds_toArray, List.set_cons_zero, List.set_cons_succ]))
  refine S_region (by kernel_rfl) ?_
  replace HWS := hid (WorldW.kept HWS.out (Kept.refl [] _).drew)
  refine E_stage 0 10 [0, 1, 2, 3, 4, 5, 6, 7, 8, 9] (by kernel_rfl) M.drew ?_
  clear M
  simp only [List.filterMap_cons, List.filterMap_nil, List.getElem?_cons_zero, List.getElem?_cons_succ]
  ((with_reducible apply E_run); rfl; rfl; (intro w M; go_simp; (try go_ints); (try simp only [↓IntWalk.iteOmega]); (try with_reducible rfl)); simp only [Act.put, List.setIfInBounds_toArray, List.set_cons_zero, List.set_cons_succ])
  ((with_reducible apply E_run); rfl; rfl; (intro w M; go_simp; (try go_ints); (try simp only [↓IntWalk.iteOmega]); (try with_reducible rfl)); simp only [Act.put, List.setIfInBounds_toArray, List.set_cons_zero, List.set_cons_succ])
  ((with_reducible apply E_run); rfl; rfl; (intro w M; go_simp; (try go_ints); (try simp only [↓IntWalk.iteOmega]); (try with_reducible rfl)); simp only [Act.put, List.setIfInBounds_toArray, List.set_cons_zero, List.set_cons_succ])
  ((with_reducible apply E_run); rfl; rfl; (intro w M; go_simp; (try go_ints); (try simp only [↓IntWalk.iteOmega]); (try with_reducible rfl)); simp only [Act.put, List.setIfInBounds_toArray, List.set_cons_zero, List.set_cons_succ])
  ((with_reducible apply E_run (v := .agg ((ad 1).map n8).toArray)); rfl; rfl; (intro w M; exact run_loadX (n := 20) M.r0 rfl Salg.underlying45 rfl size45 (Nat.le_of_ble_eq_true (by kernel_rfl)) (show (frX gv vv cu iu (wrow4 a0 a1 a2 a3)).toArray.extract 32 (32 + 20) = _ by kernel_rfl)); simp only [Act.put, List.setIfInBounds_toArray, List.set_cons_zero, List.set_cons_succ])
  ((with_reducible apply E_run); rfl; rfl; (intro w M; go_simp; (try go_ints); (try simp only [↓IntWalk.iteOmega]); (try with_reducible rfl)); simp only [Act.put, List.setIfInBounds_toArray, List.set_cons_zero, List.set_cons_succ])
  ((with_reducible apply E_run (v := .agg ((ad 2).map n8).toArray)); rfl; rfl; (intro w M; exact run_loadX (n := 20) M.r0 rfl Salg.underlying45 rfl size45 (Nat.le_of_ble_eq_true (by kernel_rfl)) (show (frX gv vv cu iu (wrow4 a0 a1 a2 a3)).toArray.extract 12 (12 + 20) = _ by kernel_rfl)); simp only [Act.put, List.setIfInBounds_toArray, List.set_cons_zero, List.set_cons_succ])
  ((with_reducible apply E_run); rfl; rfl; (intro w M; go_simp; (try go_ints); (try simp only [↓IntWalk.iteOmega]); (try with_reducible rfl)); simp only [Act.put, List.setIfInBounds_toArray, List.set_cons_zero, List.set_cons_succ])
  ((with_reducible apply E_run); rfl; rfl; (intro w M; exact run_loadCell (M.r0) rfl (show (frX gv vv cu iu (wrow4 a0 a1 a2 a3)).toArray[5]? = some vv by kernel_rfl) Salg.underlying89 rfl); simp only [Act.put, List.setIfInBounds_toArray, List.set_cons_zero, List.set_cons_succ])
  refine E_call rfl Salg.func173 (by kernel_rfl) (by kernel_rfl) (args := [.pointer (some ⟨c, 0, none⟩), A8 (ad 1), A8 (ad 2), vv]) rfl ?_
  intro w1 K M
  replace HWS := hid (WorldW.kept HWS.out K)
  clear K
  refine (HMV.out _ M.kept).mono ?_
  rintro e w5 ⟨rr, rfl, K⟩
  replace M := M.call K
  replace HWS := hid (WorldW.kept HWS.out K)
  refine ⟨_, rfl, trivial, M, ?_⟩
  clear K
  simp only [Act.put, List.setIfInBounds_toArray, List.set_cons_zero, List.set_cons_succ]
  refine E_nil ?_
  intro w6 K M
  replace HWS := hid (WorldW.kept HWS.out K)
  clear K
  refine S_done ?_
  have H3 := hid M.r0
  have HCW := hid (HC.out.kept M.kept)
  obtain ⟨wz, c1, c2⟩ := HCW.out
  have h3c : t3 ∉ [c] := row_ne c1 H3.out (by intro h; injection h with _ h _; exact absurd h (by decide))
  have hcf : c ∉ [fb] := by
    intro h
    simp at h
    subst h
    simp at hfc
  have h3f : t3 ∉ [fb] := by
    simp
    omega
  have HO := hid (chx_nb E wz (.slice (some ⟨fb, 0, none⟩) 1 cap) rt)
  have HO' := hid (chx_nb E wz (.slice (some ⟨fb, 0, none⟩) 1 cap) nilS)
  have HC2 := hid c2
  have hrw := M.kept.row hr (by simp)
  have HT2 : Hid (∀ v ds, NatV w v ds → NatV w6 v ds) := fun v n h => h.kept M.kept
  have HK : Hid (Kept [c, fb] w w6) := M.kept.mono (by simp)
  clear c2 HCW M HC hr
  go_wp2_with ((with_reducible apply W_stV (b := c) (o := 10) (v := nilS)); rfl; rfl; rfl; exact c1; exact size40; exact Nat.le_of_ble_eq_true (by kernel_rfl); intro w5 K1 hr5)
  rw [show (chM E.vz wz nilS nilS (.slice (some ⟨fb, 0, none⟩) 1 cap) rt 1 0 E.lim E.gv nilS E.pr E.tv).setIfInBounds 10 nilS = (chM E.vz wz nilS nilS (.slice (some ⟨fb, 0, none⟩) 1 cap) nilS 1 0 E.lim E.gv nilS E.pr E.tv) from by kernel_rfl] at hr5
  replace H3 := hid (K1.row H3.out h3c)
  replace hrw := K1.row hrw hfc
  replace HC2 := hid (HC2.out.keptC K1 c1 (by decide))
  replace HWS := hid (WorldW.keptC HWS.out K1 c1 HO.out wtype119)
  have HS2 : Hid (∀ v ds, NatV w v ds → NatV w5 v ds) := fun v n h => (HT2.out v n h).keptC K1 c1 HO.out
  replace HK := hid (HK.out.trans (K1.mono (by simp)))
  clear HT2 c1 K1
  have M := Mem.start w5 [fb]
  have hf5 := lt_of_row hrw
  have hcl5 := lt_of_row hr5
  have h3l := lt_of_row H3.out
  have HOF := hid (own_one_frame (Nat.zero_le _) hrw hsz hcap hc1)
  have hw5 := HK.out.size
  refine S_region (by kernel_rfl) ?_
  replace HOF := hid (own_kept HOF.out (Kept.refl [] _).drew)
  refine E_stage 0 8 [0, 1, 2, 3, 4, 5, 6, 7] (by kernel_rfl) M.drew ?_
  clear M
  simp only [List.filterMap_cons, List.filterMap_nil, List.getElem?_cons_zero, List.getElem?_cons_succ]
  ((with_reducible apply E_run); rfl; rfl; (intro w M; go_simp; (try go_ints); (try simp only [↓IntWalk.iteOmega]); (try with_reducible rfl)); simp only [Act.put, List.setIfInBounds_toArray, List.set_cons_zero, List.set_cons_succ])
  ((with_reducible apply E_run); rfl; rfl; (intro w M; go_simp; (try go_ints); (try simp only [↓IntWalk.iteOmega]); (try with_reducible rfl)); simp only [Act.put, List.setIfInBounds_toArray, List.set_cons_zero, List.set_cons_succ])
  ((with_reducible apply E_run); rfl; rfl; (intro w M; go_simp; (try go_ints); (try simp only [↓IntWalk.iteOmega]); (try with_reducible rfl)); simp only [Act.put, List.setIfInBounds_toArray, List.set_cons_zero, List.set_cons_succ])
  ((with_reducible apply E_run); rfl; rfl; (intro w M; go_simp; (try go_ints); (try simp only [↓IntWalk.iteOmega]); (try with_reducible rfl)); simp only [Act.put, List.setIfInBounds_toArray, List.set_cons_zero, List.set_cons_succ])
  ((with_reducible apply E_run); rfl; rfl; (intro w M; exact run_loadCell (M.kept.row hr5 hcf) rfl (show (chM E.vz wz nilS nilS (.slice (some ⟨fb, 0, none⟩) 1 cap) nilS 1 0 E.lim E.gv nilS E.pr E.tv)[9]? = some (.slice (some ⟨fb, 0, none⟩) 1 cap) by kernel_rfl) Salg.underlying115 rfl); simp only [Act.put, List.setIfInBounds_toArray, List.set_cons_zero, List.set_cons_succ])
  ((with_reducible apply E_run); rfl; rfl; (intro w M; exact run_loadAll (M.kept.row H3.out h3f) rfl Salg.underlying142 rfl (by kernel_rfl)); simp only [Act.put, List.setIfInBounds_toArray, List.set_cons_zero, List.set_cons_succ])
  refine E_buildIt (vs := (frX gv vv cu iu (wrow4 a0 a1 a2 a3)).toArray) (s := 60) rfl rfl Salg.underlying115 size142 zero142s rfl (by decide) (by decide) ?_
  intro bn wa wb K1 hbn hbn2 K2 M
  replace HOF := hid (own_kept (own_kept HOF.out K1) K2)
  have hbw2 := M.kept.size
  clear K1 K2
  simp only [Act.put, List.setIfInBounds_toArray, List.set_cons_zero, List.set_cons_succ]
  refine E_appendY (base := 0) (n := 1) (m := 1) (s := 60) (bn := bn) (so := 0) (xs := fs.toList.take 60) (news := (frX gv vv cu iu (wrow4 a0 a1 a2 a3))) (cs := (frX gv vv cu iu (wrow4 a0 a1 a2 a3)).toArray) info142 Salg.underlying115 rfl (by decide) (by decide) rfl rfl HOF.out (by decide) M.r0 rfl (cells_news _) (frX_one4 g1 hvo g3 g4 X0.out X1.out X2.out X3.out) (Nat.zero_le _) (by intro q hq; cases hq; exact Or.inl (List.mem_singleton.2 rfl)) (by intro p hp; cases hp) ?_
  clear M
  intro VV wc wd K1 M xO K2 xN
  have HOW := hid xO
  have HNEW : Hid (∀ b, VV.ownBlock = some b → b = fb ∨ w.heap.size ≤ b) := fun b hb => (xN b hb).imp (fun h => (Option.some.inj h).symm) (fun h => Nat.le_trans hw5 (Nat.le_trans hbw2 h))
  clear xO K1 K2 HOF xN
  simp only [Act.put, List.setIfInBounds_toArray, List.set_cons_zero, List.set_cons_succ]
  refine E_nil ?_
  intro w8 K1 M
  replace HOW := hid (own_kept HOW.out K1)
  clear K1
  refine S_seg 8 11 (by kernel_rfl) (by decide) ?_
  simp only [List.take_succ_cons, List.take_zero, List.drop_zero, List.drop_succ_cons, Nat.sub_zero, Nat.reduceSub]
  obtain ⟨fb', cap', cur, rfl, z1, z2, z3, z4, z5, z6, z7⟩ := own_two HOW.out (by simp [hsz]; omega) (by rfl)
  have hnew := HNEW.out fb' rfl
  have K2' : Kept [fb] w5 w8 := M.kept
  have hfw := hrw
  have hcw := K2'.row hr5 hcf
  have HC2' := hid (HC2.out.keptC K2' hfw (by decide))
  replace HWS := hid (WorldW.keptC HWS.out K2' hfw HNB.out wtype142)
  have HT2 : Hid (∀ v ds, NatV w v ds → NatV w8 v ds) := fun v n h => (HS2.out v n h).keptC K2' hfw HNB.out
  replace HK := hid (HK.out.trans (K2'.mono (by simp)))
  have HZ3 := hid z3
  have HZ4 := hid z4
  have hf2 : fb' ∉ [c] := row_ne hcw z2 (by rintro h; cases h)
  clear HOW K2' M HS2 HC2 z3 z4 hfw HNEW
  go_wp2_with ((with_reducible apply W_stV (b := c) (o := 9) (v := .slice (some ⟨fb', 0, none⟩) 2 cap')); rfl; rfl; rfl; exact hcw; exact size115; exact Nat.le_of_ble_eq_true (by kernel_rfl); intro w9 K3 hr9)
  refine S_done ?_
  rw [show (chM E.vz wz nilS nilS (.slice (some ⟨fb, 0, none⟩) 1 cap) nilS 1 0 E.lim E.gv nilS E.pr E.tv).setIfInBounds 9 (.slice (some ⟨fb', 0, none⟩) 2 cap') = (chM E.vz wz nilS nilS (.slice (some ⟨fb', 0, none⟩) 2 cap') nilS 1 0 E.lim E.gv nilS E.pr E.tv) from by kernel_rfl] at hr9
  have HF : Hid (ChX w9 c E (.slice (some ⟨fb', 0, none⟩) 2 cap') nilS la) := ⟨wz, hr9, HC2'.out.keptC K3 hcw (by decide)⟩
  have HWS2 := hid (WorldW.keptC HWS.out K3 hcw HO'.out wtype119)
  have HU2 : Hid (∀ v ds, NatV w v ds → NatV w9 v ds) := fun v n h => (HT2.out v n h).keptC K3 hcw HO'.out
  have HK9 := hid (HK.out.trans (K3.mono (by simp)))
  have HZ2 := hid (K3.row z2 hf2)
  clear K3 hr9 hcw z2
  go_wp2_with fail
  go_end0
  refine ⟨_, fb', cap', cur, a0, a1, a2, a3, rfl, HF.out, HZ2.out, hnew, fun k hk => ?_, HZ4.out, z5, z6, z7, HWS2.out, HU2.out, HK9.out⟩
  rw [HZ3.out k hk, List.getElem?_take_of_lt hk]
  simp
end Go.Proofs.YgcsalGreat

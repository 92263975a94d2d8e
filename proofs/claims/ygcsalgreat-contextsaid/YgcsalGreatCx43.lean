/-
  The walk of law.contextWay: kind 6.
-/
import Derived.Test.YgcsalGreatCx41
import Derived.Test.YgcsalGreatHoist
set_option linter.unusedSimpArgs false
set_option linter.unusedVariables false
namespace Go.Own
open Go.Proofs Go.Proofs.YgcsalGreat
section
variable {P : Program} {ops : List Oper} {Q : Exit → Act → World → Prop} {a : Act} {w w0 : World} {X : List Nat} {L : List (Nat × Obj)}
theorem S_same {fuel : Nat} {listed : Array Bool} (m : Nat) (hl : listed = upTo m ops.length) (hf : fuel = ops.length - m) (h : wpAny P .any ops.toArray Q (ops.length - m) (upTo m ops.length) a w) : wpAny P .any ops.toArray Q fuel listed a w := by
  subst hl hf
  exact h
theorem S_buildN {i n : Nat} {K : Act → World → Prop} {d : Tmp} {t ty : TypeId} {pos : String} {after : Array Edge} {xs : Array (Nat × Operand)} {e : TypeId} {vs : Array Value} (M : Mem w0 X L w)
    (ho : ops[i]? = some { dst := some d, op := .buildSlice t n xs, type := ty, pos := pos, after := after, guard := none })
    (hr : (execOp a.eval { dst := some d, op := .buildSlice t n xs, type := ty, pos := pos, after := after, guard := none }).run P w = .ok (.value (.slice (some ⟨w.heap.size, 0, none⟩) n n)) { w with heap := w.heap.push (.cells vs e (0, 0)) })
    (k : ∀ b w', w0.heap.size ≤ b → Kept [] w w' → Mem w0 X ((b, .cells vs e (0, 0)) :: L) w' → K (a.put (some d) (.slice (some ⟨b, 0, none⟩) n n)) w') : wpOp P ops.toArray Q i K a w :=
  S_op ho rfl (W_buildN M hr (fun b w' h1 _ K1 M' => k b w' h1 K1 M'))
theorem S_call {i : Nat} {K : Act → World → Prop} {dst : Option Tmp} {f : FuncId} {xs : List Operand} {ats : Array TypeId} {ty : TypeId} {pos : String} {after : Array Edge} {fn : Func} {args : List Value}
    (ho : ops[i]? = some { dst := dst, op := .call { callee := .value (.func f), args := xs.toArray, argTypes := ats }, type := ty, pos := pos, after := after, guard := none })
    (hfn : P.funcs[f]? = some fn) (hn : (fn.name == "runtime.NumGoroutine") = false) (hb : fn.body.isNone = false) (hargs : xs.map a.eval = args)
    (hc : Calls P f args.toArray w fun e w' => ∃ v, e = .returned v ∧ K (a.put dst v) w') : wpOp P ops.toArray Q i K a w := by
  refine wpOp_of_wp ho rfl ?_
  have hr : (execOp a.eval { dst := dst, op := .call { callee := .value (.func f), args := xs.toArray, argTypes := ats }, type := ty, pos := pos, after := after, guard := none }).run P w = .ok (.enter f args.toArray) w := by
    rw [execOp_call_go]
    have hn' : ¬ fn.name = "runtime.NumGoroutine" := by simpa using hn
    have hb' : ¬ fn.body = none := by intro h; simp [h] at hb
    simp [callFunc, Go.program, Sem.run, hfn, hn', hb', hargs]
  unfold Oper.wp
  rw [hr]
  refine Calls.mono hc ?_
  rintro e w' ⟨v, rfl, hk⟩
  exact hk
end
theorem small_creL {v : Nat} (hv : v < 256) : Small (creL v) := by
  intro x hx
  simp [creL, probeL] at hx
  omega
theorem row_lit {w : World} {b n : Nat} {l : List Nat} (h : w.heap[b]? = some (R8 5 l)) (hl : l.length = n) (hn : n ≤ 1000) : RowV w 5 (.slice (some ⟨b, 0, none⟩) n n) (l.map n8) := by
  have := own_lit (base := 0) h (n := n) (by simp [hl]) (by omega) (Nat.zero_le _)
  exact RowV.own this
end Go.Own
namespace Go.Proofs.YgcsalGreat
open Go.RowKit Go.Own
theorem join_cre (v q6 qb q16 : Nat) (w : World) (hv : v < 256) (h0 : w.heap[q6]? = some (R8 5 [114])) (h1 : w.heap[qb]? = some (R8 5 probeL)) (h2 : w.heap[q16]? = some (R8 5 [95, 82, 96, 19, 96, 13, 96, v, 240])) :
    Calls Salg.prog 32 #[.slice (some ⟨q6, 0, none⟩) 1 1, .slice (some ⟨qb, 0, none⟩) 19 19, .slice (some ⟨q16, 0, none⟩) 9 9, .slice none 0 0] w fun e w' => ∃ u, e = .returned u ∧ CodeV w' u (creL v) ∧ Kept [] w w' := by
  refine (join_three _ _ _ _ _ _ w (row_lit h0 rfl (by decide)) (by decide) (by decide) (n8_onesL _) (row_lit h1 rfl (by decide)) (by decide) (by decide) (n8_onesL _) (row_lit h2 rfl (by simp)) (by simp) (by simp) (n8_onesL _)).mono ?_
  rintro e w' ⟨u, rfl, h, K⟩
  exact ⟨u, rfl, code_own (ds := creL v) h (by simp [creL]) (by simp [creL, probeL]) (small_creL hv), K⟩

set_option maxHeartbeats 4000000 in
set_option maxRecDepth 100000 in
theorem way_6 (tv v : Nat) (w : World) (hv : v < 256) : Calls Salg.prog 26 #[.int .u8 6, n8 tv, n8 v] w fun e w' => ∃ cs, e = .returned (.agg (rwL cs 1 false tv nilS ha6 (ad 1) v 1 false).toArray) ∧ Codes2 w' cs (creL v) probeL ∧ Kept [] w w' := by
  have M := Mem.start w []
  go_enter Salg.func26, Salg.ntmps26
  go_wp2_with ((with_reducible apply L_allocA (d := 6) M); exact zero69; clear M; intro t6 w1 ht6 M; simp only [Act.put, List.setIfInBounds_toArray, List.set_cons_zero, List.set_cons_succ])
  refine (probe_lit _).mono ?_
  rintro e w2 ⟨pb, rfl, xP, xN, K⟩
  have h6p : t6 < pb := Nat.lt_of_lt_of_le (lt_of_row M.r0) xN
  replace M := (M.call K).add xP (by intro p hp; simp at hp; subst hp; exact Nat.ne_of_gt h6p)
  clear K xP xN h6p
  go_wp2_with ((with_reducible apply W_buildN (vs := #[nilS, .slice (some ⟨pb, 0, none⟩) 19 19]) (e := 40) M); kernel_rfl; clear M; intro b w3 hb hb2 KB M; clear KB hb2; simp only [Act.put, List.setIfInBounds_toArray, List.set_cons_zero, List.set_cons_succ])
  refine (toA1_any _).mono ?_
  rintro e w2 ⟨rfl, K⟩
  replace M := M.call K
  clear K
  go_wp2_with fail
  refine (addrNo_any 2 _).mono ?_
  rintro e w2 ⟨rfl, K⟩
  replace M := M.call K
  clear K
  go_wp2_with fail
  refine (addrNo_any 1 _).mono ?_
  rintro e w2 ⟨rfl, K⟩
  replace M := M.call K
  clear K
  go_wp2_with (first
    | ((with_reducible apply W_buildV (v := .agg (rwL (.slice (some ⟨b, 0, none⟩) 2 2) 1 false 0 nilS (ad 2) (ad 1) 0 1 false).toArray)); kernel_rfl; simp only [Act.put, List.setIfInBounds_toArray, List.set_cons_zero, List.set_cons_succ])
    | ((with_reducible apply L_allocA (d := 7) M); exact zero69; clear M; intro t7 w1 ht7 M; simp only [Act.put, List.setIfInBounds_toArray, List.set_cons_zero, List.set_cons_succ])
    | ((with_reducible apply W_storeK (b := t7) (vs := (rwL (.slice (some ⟨b, 0, none⟩) 2 2) 1 false 0 nilS (ad 2) (ad 1) 0 1 false).toArray)); rfl; rfl; exact M.r0; exact size69Z; kernel_rfl; exact oneT (rwL_one _ _ _ _ _ _ _ _ _ _ rfl rfl); intro w5 K hr3; replace M := Mem.callPut (L1 := []) M (Or.inr ht7) K hr3; clear K hr3; simp only [List.cons_append, List.nil_append] at M)
    | ((with_reducible apply W_stP (b := t7) (o := 107) (n := 1) (v := n8 tv) (rs := (rwL (.slice (some ⟨b, 0, none⟩) 2 2) 1 false tv nilS (ad 2) (ad 1) 0 1 false).toArray)); rfl; rfl; exact M.r0; exact size5; kernel_rfl; exact oneL (l := [n8 tv]) rfl; exact Nat.le_of_ble_eq_true (by kernel_rfl); kernel_rfl; intro w5 K hr3; replace M := Mem.callPut (L1 := []) M (Or.inr ht7) K hr3; clear K hr3; simp only [List.cons_append, List.nil_append] at M))
  refine (probe_lit _).mono ?_
  rintro e w2 ⟨qb, rfl, xP, xN, K⟩
  have HQ := hid (isProbe xP)
  replace M := M.call K
  clear K xP xN
  go_wp2_with fail
  refine S_region (by kernel_rfl) ?_
  replace M := M.drew
  replace HQ := hid (HQ.out.kept (Kept.refl [] _).drew)
  refine S_nrml ?_
  refine S_perm [0, 2, 3, 4, 5, 7, 8, 9, 10, 11, 12, 13, 14, 15, 1, 6, 16, 17, 18, 19] [0, 14, 1, 2, 3, 4, 15, 5, 6, 7, 8, 9, 10, 11, 12, 13, 16, 17, 18, 19] (by kernel_rfl) ?_
  simp only [permOps, List.map_cons, List.map_nil, List.getD_cons_zero, List.getD_cons_succ, relab]
  refine S_hoist 0 (v := .pointer (some ⟨t7, 0, none⟩)) rfl (by kernel_rfl) (fun w => by kernel_rfl) ?_
  simp only [Act.put, List.setIfInBounds_toArray, List.set_cons_zero, List.set_cons_succ]
  refine S_hoist 1 (v := .slice (some ⟨qb, 0, none⟩) 19 19) rfl (by kernel_rfl) (fun w => by kernel_rfl) ?_
  simp only [Act.put, List.setIfInBounds_toArray, List.set_cons_zero, List.set_cons_succ]
  refine S_hoist 2 (v := .int .i64 19) rfl (by kernel_rfl) (fun w => by kernel_rfl) ?_
  simp only [Act.put, List.setIfInBounds_toArray, List.set_cons_zero, List.set_cons_succ]
  refine S_hoist 3 (v := n8 19) rfl (by kernel_rfl) (fun w => by kernel_rfl) ?_
  simp only [Act.put, List.setIfInBounds_toArray, List.set_cons_zero, List.set_cons_succ]
  refine S_hoist 4 (v := n8 114) rfl (by kernel_rfl) (fun w => by kernel_rfl) ?_
  simp only [Act.put, List.setIfInBounds_toArray, List.set_cons_zero, List.set_cons_succ]
  refine S_hoist 5 (v := .slice (some ⟨qb, 0, none⟩) 19 19) rfl (by kernel_rfl) (fun w => by kernel_rfl) ?_
  simp only [Act.put, List.setIfInBounds_toArray, List.set_cons_zero, List.set_cons_succ]
  refine S_hoist 6 (v := .slice (some ⟨qb, 0, none⟩) 19 19) rfl (by kernel_rfl) (fun w => by kernel_rfl) ?_
  simp only [Act.put, List.setIfInBounds_toArray, List.set_cons_zero, List.set_cons_succ]
  refine S_hoist 7 (v := .int .i64 19) rfl (by kernel_rfl) (fun w => by kernel_rfl) ?_
  simp only [Act.put, List.setIfInBounds_toArray, List.set_cons_zero, List.set_cons_succ]
  refine S_hoist 8 (v := n8 19) rfl (by kernel_rfl) (fun w => by kernel_rfl) ?_
  simp only [Act.put, List.setIfInBounds_toArray, List.set_cons_zero, List.set_cons_succ]
  refine S_hoist 9 (v := .slice (some ⟨qb, 0, none⟩) 19 19) rfl (by kernel_rfl) (fun w => by kernel_rfl) ?_
  simp only [Act.put, List.setIfInBounds_toArray, List.set_cons_zero, List.set_cons_succ]
  refine S_hoist 10 (v := .int .i64 19) rfl (by kernel_rfl) (fun w => by kernel_rfl) ?_
  simp only [Act.put, List.setIfInBounds_toArray, List.set_cons_zero, List.set_cons_succ]
  refine S_hoist 11 (v := n8 19) rfl (by kernel_rfl) (fun w => by kernel_rfl) ?_
  simp only [Act.put, List.setIfInBounds_toArray, List.set_cons_zero, List.set_cons_succ]
  refine S_hoist 12 (v := n8 13) rfl (by kernel_rfl) (fun w => by kernel_rfl) ?_
  simp only [Act.put, List.setIfInBounds_toArray, List.set_cons_zero, List.set_cons_succ]
  refine S_hoist 13 (v := n8 v) rfl (by kernel_rfl) (fun w => by kernel_rfl) ?_
  simp only [Act.put, List.setIfInBounds_toArray, List.set_cons_zero, List.set_cons_succ]
  refine S_pick3 14 15 16 (by kernel_rfl) ?_ ?_ ?_
  · refine S_val (v := (.slice (some ⟨b, 0, none⟩) 2 2)) rfl rfl (run_loadCell M.r0 rfl (show (rwL (.slice (some ⟨b, 0, none⟩) 2 2) 1 false tv nilS (ad 2) (ad 1) 0 1 false).toArray[0]? = some (.slice (some ⟨b, 0, none⟩) 2 2) by rfl) Salg.underlying42 rfl) ?_
    simp only [Act.put, List.setIfInBounds_toArray, List.set_cons_zero, List.set_cons_succ]
    refine S_pick2 15 16 (by kernel_rfl) ?_ ?_
    · refine S_buildN (vs := #[n8 114]) (e := 5) M rfl (by kernel_rfl) ?_
      clear M
      intro q6 w3 hq6 K M
      replace HQ := hid (HQ.out.kept K)
      clear K
      simp only [Act.put, List.setIfInBounds_toArray, List.set_cons_zero, List.set_cons_succ]
      refine S_pick1 16 (by kernel_rfl) ?_
      refine S_buildN (vs := #[n8 95, n8 82, n8 96, n8 19, n8 96, n8 13, n8 96, n8 v, n8 240]) (e := 5) M rfl (by kernel_rfl) ?_
      clear M
      intro q16 w3 hq16 K M
      replace HQ := hid (HQ.out.kept K)
      clear K
      simp only [Act.put, List.setIfInBounds_toArray, List.set_cons_zero, List.set_cons_succ]
      refine S_same 17 (by kernel_rfl) (by kernel_rfl) ?_
      refine S_seg 17 20 (by kernel_rfl) (by decide) ?_
      simp only [List.take_succ_cons, List.take_zero, List.drop_zero, List.drop_succ_cons, Nat.sub_zero, Nat.reduceSub]
      go_wp2_with fail
      refine (join_cre v q6 qb q16 _ hv M.r1 HQ.out M.r0).mono ?_
      rintro e w2 ⟨u0, rfl, xHX0, K⟩
      have HX0 := hid xHX0
      replace HQ := hid (HQ.out.kept K)
      replace M := M.call K
      clear K xHX0
      go_wp2_with ((with_reducible apply W_stV (b := b) (o := 0) (v := u0)); rfl; rfl; exact HX0.out.one; exact M.r3; exact size40; exact (show 0 < 2 by decide); intro w5 K hr3; rw [show #[nilS, Value.slice (some ⟨pb, 0, none⟩) 19 19].setIfInBounds 0 u0 = #[u0, Value.slice (some ⟨pb, 0, none⟩) 19 19] from rfl] at hr3; replace HQ := hid (HQ.out.keptC K M.r3 (by decide)); replace HX0 := hid (HX0.out.keptC K M.r3 (by decide)); replace M := Mem.callPut (L1 := [_, _, _]) M (Or.inr hb) K hr3; clear K hr3; simp only [List.cons_append, List.nil_append] at M)
      refine S_done ?_
      refine ⟨rfl, ?_⟩
      go_wp2_with fail
      refine (addrNo_any 1 _).mono ?_
      rintro e w2 ⟨rfl, K⟩
      replace HQ := hid (HQ.out.kept K)
      replace HX0 := hid (HX0.out.kept K)
      replace M := M.call K
      clear K
      go_wp2_with fail
      refine (made6 _).mono ?_
      rintro e w2 ⟨rfl, K⟩
      replace HQ := hid (HQ.out.kept K)
      replace HX0 := hid (HX0.out.kept K)
      replace M := M.call K
      clear K
      go_wp2_with (first
        | ((with_reducible apply W_stP (b := t7) (o := 175) (n := 20) (v := A8 ha6) (rs := (rwL (.slice (some ⟨b, 0, none⟩) 2 2) 1 false tv nilS ha6 (ad 1) 0 1 false).toArray)); rfl; rfl; exact M.r2; exact size45; kernel_rfl; exact oneL rfl; exact Nat.le_of_ble_eq_true (by kernel_rfl); kernel_rfl; intro w5 K hr3; replace HQ := hid (HQ.out.keptC K M.r2 (by decide)); replace HX0 := hid (HX0.out.keptC K M.r2 (by decide)); replace M := Mem.callPut (L1 := [_, _]) M (Or.inr ht7) K hr3; clear K hr3; simp only [List.cons_append, List.nil_append] at M)
        | ((with_reducible apply W_stP (b := t7) (o := 215) (n := 1) (v := n8 v) (rs := (rwL (.slice (some ⟨b, 0, none⟩) 2 2) 1 false tv nilS ha6 (ad 1) v 1 false).toArray)); rfl; rfl; exact M.r2; exact size5; kernel_rfl; exact oneL (l := [n8 v]) rfl; exact Nat.le_of_ble_eq_true (by kernel_rfl); kernel_rfl; intro w5 K hr3; replace HQ := hid (HQ.out.keptC K M.r2 (by decide)); replace HX0 := hid (HX0.out.keptC K M.r2 (by decide)); replace M := Mem.callPut (L1 := [_, _]) M (Or.inr ht7) K hr3; clear K hr3; simp only [List.cons_append, List.nil_append] at M)
        | ((with_reducible apply W_loadAll); rfl; exact M.r2; exact Salg.underlying69; rfl; exact (size69 _ _ _ _ _ _ _ _ _ _ rfl rfl); simp only [Act.put, List.setIfInBounds_toArray, List.set_cons_zero, List.set_cons_succ])
        | ((with_reducible apply W_storeK (b := t6) (vs := (rwL (.slice (some ⟨b, 0, none⟩) 2 2) 1 false tv nilS ha6 (ad 1) v 1 false).toArray)); rfl; rfl; exact M.r5; exact size69Z; kernel_rfl; exact oneT (rwL_one _ _ _ _ _ _ _ _ _ _ rfl rfl); intro w5 K hr3; replace HQ := hid (HQ.out.keptC K M.r5 (by decide)); replace HX0 := hid (HX0.out.keptC K M.r5 (by decide)); replace M := Mem.callPut (L1 := [_, _, _, _, _]) M (Or.inr ht6) K hr3; clear K hr3; simp only [List.cons_append, List.nil_append] at M))
      refine ret_cell1 Salg.results26 rfl M.r5 Salg.underlying69 rfl (size69 _ _ _ _ _ _ _ _ _ _ rfl rfl) rfl ?_
      exact ⟨_, rfl, ⟨b, _, _, rfl, M.r3, HX0.out, code_probe M.r4⟩, M.kept⟩
    · refine S_buildN (vs := #[n8 95, n8 82, n8 96, n8 19, n8 96, n8 13, n8 96, n8 v, n8 240]) (e := 5) M rfl (by kernel_rfl) ?_
      clear M
      intro q16 w3 hq16 K M
      replace HQ := hid (HQ.out.kept K)
      clear K
      simp only [Act.put, List.setIfInBounds_toArray, List.set_cons_zero, List.set_cons_succ]
      refine S_pick1 15 (by kernel_rfl) ?_
      refine S_buildN (vs := #[n8 114]) (e := 5) M rfl (by kernel_rfl) ?_
      clear M
      intro q6 w3 hq6 K M
      replace HQ := hid (HQ.out.kept K)
      clear K
      simp only [Act.put, List.setIfInBounds_toArray, List.set_cons_zero, List.set_cons_succ]
      refine S_same 17 (by kernel_rfl) (by kernel_rfl) ?_
      refine S_seg 17 20 (by kernel_rfl) (by decide) ?_
      simp only [List.take_succ_cons, List.take_zero, List.drop_zero, List.drop_succ_cons, Nat.sub_zero, Nat.reduceSub]
      go_wp2_with fail
      refine (join_cre v q6 qb q16 _ hv M.r0 HQ.out M.r1).mono ?_
      rintro e w2 ⟨u0, rfl, xHX0, K⟩
      have HX0 := hid xHX0
      replace HQ := hid (HQ.out.kept K)
      replace M := M.call K
      clear K xHX0
      go_wp2_with ((with_reducible apply W_stV (b := b) (o := 0) (v := u0)); rfl; rfl; exact HX0.out.one; exact M.r3; exact size40; exact (show 0 < 2 by decide); intro w5 K hr3; rw [show #[nilS, Value.slice (some ⟨pb, 0, none⟩) 19 19].setIfInBounds 0 u0 = #[u0, Value.slice (some ⟨pb, 0, none⟩) 19 19] from rfl] at hr3; replace HQ := hid (HQ.out.keptC K M.r3 (by decide)); replace HX0 := hid (HX0.out.keptC K M.r3 (by decide)); replace M := Mem.callPut (L1 := [_, _, _]) M (Or.inr hb) K hr3; clear K hr3; simp only [List.cons_append, List.nil_append] at M)
      refine S_done ?_
      refine ⟨rfl, ?_⟩
      go_wp2_with fail
      refine (addrNo_any 1 _).mono ?_
      rintro e w2 ⟨rfl, K⟩
      replace HQ := hid (HQ.out.kept K)
      replace HX0 := hid (HX0.out.kept K)
      replace M := M.call K
      clear K
      go_wp2_with fail
      refine (made6 _).mono ?_
      rintro e w2 ⟨rfl, K⟩
      replace HQ := hid (HQ.out.kept K)
      replace HX0 := hid (HX0.out.kept K)
      replace M := M.call K
      clear K
      go_wp2_with (first
        | ((with_reducible apply W_stP (b := t7) (o := 175) (n := 20) (v := A8 ha6) (rs := (rwL (.slice (some ⟨b, 0, none⟩) 2 2) 1 false tv nilS ha6 (ad 1) 0 1 false).toArray)); rfl; rfl; exact M.r2; exact size45; kernel_rfl; exact oneL rfl; exact Nat.le_of_ble_eq_true (by kernel_rfl); kernel_rfl; intro w5 K hr3; replace HQ := hid (HQ.out.keptC K M.r2 (by decide)); replace HX0 := hid (HX0.out.keptC K M.r2 (by decide)); replace M := Mem.callPut (L1 := [_, _]) M (Or.inr ht7) K hr3; clear K hr3; simp only [List.cons_append, List.nil_append] at M)
        | ((with_reducible apply W_stP (b := t7) (o := 215) (n := 1) (v := n8 v) (rs := (rwL (.slice (some ⟨b, 0, none⟩) 2 2) 1 false tv nilS ha6 (ad 1) v 1 false).toArray)); rfl; rfl; exact M.r2; exact size5; kernel_rfl; exact oneL (l := [n8 v]) rfl; exact Nat.le_of_ble_eq_true (by kernel_rfl); kernel_rfl; intro w5 K hr3; replace HQ := hid (HQ.out.keptC K M.r2 (by decide)); replace HX0 := hid (HX0.out.keptC K M.r2 (by decide)); replace M := Mem.callPut (L1 := [_, _]) M (Or.inr ht7) K hr3; clear K hr3; simp only [List.cons_append, List.nil_append] at M)
        | ((with_reducible apply W_loadAll); rfl; exact M.r2; exact Salg.underlying69; rfl; exact (size69 _ _ _ _ _ _ _ _ _ _ rfl rfl); simp only [Act.put, List.setIfInBounds_toArray, List.set_cons_zero, List.set_cons_succ])
        | ((with_reducible apply W_storeK (b := t6) (vs := (rwL (.slice (some ⟨b, 0, none⟩) 2 2) 1 false tv nilS ha6 (ad 1) v 1 false).toArray)); rfl; rfl; exact M.r5; exact size69Z; kernel_rfl; exact oneT (rwL_one _ _ _ _ _ _ _ _ _ _ rfl rfl); intro w5 K hr3; replace HQ := hid (HQ.out.keptC K M.r5 (by decide)); replace HX0 := hid (HX0.out.keptC K M.r5 (by decide)); replace M := Mem.callPut (L1 := [_, _, _, _, _]) M (Or.inr ht6) K hr3; clear K hr3; simp only [List.cons_append, List.nil_append] at M))
      refine ret_cell1 Salg.results26 rfl M.r5 Salg.underlying69 rfl (size69 _ _ _ _ _ _ _ _ _ _ rfl rfl) rfl ?_
      exact ⟨_, rfl, ⟨b, _, _, rfl, M.r3, HX0.out, code_probe M.r4⟩, M.kept⟩
  · refine S_buildN (vs := #[n8 114]) (e := 5) M rfl (by kernel_rfl) ?_
    clear M
    intro q6 w3 hq6 K M
    replace HQ := hid (HQ.out.kept K)
    clear K
    simp only [Act.put, List.setIfInBounds_toArray, List.set_cons_zero, List.set_cons_succ]
    refine S_pick2 14 16 (by kernel_rfl) ?_ ?_
    · refine S_val (v := (.slice (some ⟨b, 0, none⟩) 2 2)) rfl rfl (run_loadCell M.r1 rfl (show (rwL (.slice (some ⟨b, 0, none⟩) 2 2) 1 false tv nilS (ad 2) (ad 1) 0 1 false).toArray[0]? = some (.slice (some ⟨b, 0, none⟩) 2 2) by rfl) Salg.underlying42 rfl) ?_
      simp only [Act.put, List.setIfInBounds_toArray, List.set_cons_zero, List.set_cons_succ]
      refine S_pick1 16 (by kernel_rfl) ?_
      refine S_buildN (vs := #[n8 95, n8 82, n8 96, n8 19, n8 96, n8 13, n8 96, n8 v, n8 240]) (e := 5) M rfl (by kernel_rfl) ?_
      clear M
      intro q16 w3 hq16 K M
      replace HQ := hid (HQ.out.kept K)
      clear K
      simp only [Act.put, List.setIfInBounds_toArray, List.set_cons_zero, List.set_cons_succ]
      refine S_same 17 (by kernel_rfl) (by kernel_rfl) ?_
      refine S_seg 17 20 (by kernel_rfl) (by decide) ?_
      simp only [List.take_succ_cons, List.take_zero, List.drop_zero, List.drop_succ_cons, Nat.sub_zero, Nat.reduceSub]
      go_wp2_with fail
      refine (join_cre v q6 qb q16 _ hv M.r1 HQ.out M.r0).mono ?_
      rintro e w2 ⟨u0, rfl, xHX0, K⟩
      have HX0 := hid xHX0
      replace HQ := hid (HQ.out.kept K)
      replace M := M.call K
      clear K xHX0
      go_wp2_with ((with_reducible apply W_stV (b := b) (o := 0) (v := u0)); rfl; rfl; exact HX0.out.one; exact M.r3; exact size40; exact (show 0 < 2 by decide); intro w5 K hr3; rw [show #[nilS, Value.slice (some ⟨pb, 0, none⟩) 19 19].setIfInBounds 0 u0 = #[u0, Value.slice (some ⟨pb, 0, none⟩) 19 19] from rfl] at hr3; replace HQ := hid (HQ.out.keptC K M.r3 (by decide)); replace HX0 := hid (HX0.out.keptC K M.r3 (by decide)); replace M := Mem.callPut (L1 := [_, _, _]) M (Or.inr hb) K hr3; clear K hr3; simp only [List.cons_append, List.nil_append] at M)
      refine S_done ?_
      refine ⟨rfl, ?_⟩
      go_wp2_with fail
      refine (addrNo_any 1 _).mono ?_
      rintro e w2 ⟨rfl, K⟩
      replace HQ := hid (HQ.out.kept K)
      replace HX0 := hid (HX0.out.kept K)
      replace M := M.call K
      clear K
      go_wp2_with fail
      refine (made6 _).mono ?_
      rintro e w2 ⟨rfl, K⟩
      replace HQ := hid (HQ.out.kept K)
      replace HX0 := hid (HX0.out.kept K)
      replace M := M.call K
      clear K
      go_wp2_with (first
        | ((with_reducible apply W_stP (b := t7) (o := 175) (n := 20) (v := A8 ha6) (rs := (rwL (.slice (some ⟨b, 0, none⟩) 2 2) 1 false tv nilS ha6 (ad 1) 0 1 false).toArray)); rfl; rfl; exact M.r2; exact size45; kernel_rfl; exact oneL rfl; exact Nat.le_of_ble_eq_true (by kernel_rfl); kernel_rfl; intro w5 K hr3; replace HQ := hid (HQ.out.keptC K M.r2 (by decide)); replace HX0 := hid (HX0.out.keptC K M.r2 (by decide)); replace M := Mem.callPut (L1 := [_, _]) M (Or.inr ht7) K hr3; clear K hr3; simp only [List.cons_append, List.nil_append] at M)
        | ((with_reducible apply W_stP (b := t7) (o := 215) (n := 1) (v := n8 v) (rs := (rwL (.slice (some ⟨b, 0, none⟩) 2 2) 1 false tv nilS ha6 (ad 1) v 1 false).toArray)); rfl; rfl; exact M.r2; exact size5; kernel_rfl; exact oneL (l := [n8 v]) rfl; exact Nat.le_of_ble_eq_true (by kernel_rfl); kernel_rfl; intro w5 K hr3; replace HQ := hid (HQ.out.keptC K M.r2 (by decide)); replace HX0 := hid (HX0.out.keptC K M.r2 (by decide)); replace M := Mem.callPut (L1 := [_, _]) M (Or.inr ht7) K hr3; clear K hr3; simp only [List.cons_append, List.nil_append] at M)
        | ((with_reducible apply W_loadAll); rfl; exact M.r2; exact Salg.underlying69; rfl; exact (size69 _ _ _ _ _ _ _ _ _ _ rfl rfl); simp only [Act.put, List.setIfInBounds_toArray, List.set_cons_zero, List.set_cons_succ])
        | ((with_reducible apply W_storeK (b := t6) (vs := (rwL (.slice (some ⟨b, 0, none⟩) 2 2) 1 false tv nilS ha6 (ad 1) v 1 false).toArray)); rfl; rfl; exact M.r5; exact size69Z; kernel_rfl; exact oneT (rwL_one _ _ _ _ _ _ _ _ _ _ rfl rfl); intro w5 K hr3; replace HQ := hid (HQ.out.keptC K M.r5 (by decide)); replace HX0 := hid (HX0.out.keptC K M.r5 (by decide)); replace M := Mem.callPut (L1 := [_, _, _, _, _]) M (Or.inr ht6) K hr3; clear K hr3; simp only [List.cons_append, List.nil_append] at M))
      refine ret_cell1 Salg.results26 rfl M.r5 Salg.underlying69 rfl (size69 _ _ _ _ _ _ _ _ _ _ rfl rfl) rfl ?_
      exact ⟨_, rfl, ⟨b, _, _, rfl, M.r3, HX0.out, code_probe M.r4⟩, M.kept⟩
    · refine S_buildN (vs := #[n8 95, n8 82, n8 96, n8 19, n8 96, n8 13, n8 96, n8 v, n8 240]) (e := 5) M rfl (by kernel_rfl) ?_
      clear M
      intro q16 w3 hq16 K M
      replace HQ := hid (HQ.out.kept K)
      clear K
      simp only [Act.put, List.setIfInBounds_toArray, List.set_cons_zero, List.set_cons_succ]
      refine S_pick2 14 17 (by kernel_rfl) ?_ ?_
      · refine S_val (v := (.slice (some ⟨b, 0, none⟩) 2 2)) rfl rfl (run_loadCell M.r2 rfl (show (rwL (.slice (some ⟨b, 0, none⟩) 2 2) 1 false tv nilS (ad 2) (ad 1) 0 1 false).toArray[0]? = some (.slice (some ⟨b, 0, none⟩) 2 2) by rfl) Salg.underlying42 rfl) ?_
        simp only [Act.put, List.setIfInBounds_toArray, List.set_cons_zero, List.set_cons_succ]
        refine S_same 17 (by kernel_rfl) (by kernel_rfl) ?_
        refine S_seg 17 20 (by kernel_rfl) (by decide) ?_
        simp only [List.take_succ_cons, List.take_zero, List.drop_zero, List.drop_succ_cons, Nat.sub_zero, Nat.reduceSub]
        go_wp2_with fail
        refine (join_cre v q6 qb q16 _ hv M.r1 HQ.out M.r0).mono ?_
        rintro e w2 ⟨u0, rfl, xHX0, K⟩
        have HX0 := hid xHX0
        replace HQ := hid (HQ.out.kept K)
        replace M := M.call K
        clear K xHX0
        go_wp2_with ((with_reducible apply W_stV (b := b) (o := 0) (v := u0)); rfl; rfl; exact HX0.out.one; exact M.r3; exact size40; exact (show 0 < 2 by decide); intro w5 K hr3; rw [show #[nilS, Value.slice (some ⟨pb, 0, none⟩) 19 19].setIfInBounds 0 u0 = #[u0, Value.slice (some ⟨pb, 0, none⟩) 19 19] from rfl] at hr3; replace HQ := hid (HQ.out.keptC K M.r3 (by decide)); replace HX0 := hid (HX0.out.keptC K M.r3 (by decide)); replace M := Mem.callPut (L1 := [_, _, _]) M (Or.inr hb) K hr3; clear K hr3; simp only [List.cons_append, List.nil_append] at M)
        refine S_done ?_
        refine ⟨rfl, ?_⟩
        go_wp2_with fail
        refine (addrNo_any 1 _).mono ?_
        rintro e w2 ⟨rfl, K⟩
        replace HQ := hid (HQ.out.kept K)
        replace HX0 := hid (HX0.out.kept K)
        replace M := M.call K
        clear K
        go_wp2_with fail
        refine (made6 _).mono ?_
        rintro e w2 ⟨rfl, K⟩
        replace HQ := hid (HQ.out.kept K)
        replace HX0 := hid (HX0.out.kept K)
        replace M := M.call K
        clear K
        go_wp2_with (first
          | ((with_reducible apply W_stP (b := t7) (o := 175) (n := 20) (v := A8 ha6) (rs := (rwL (.slice (some ⟨b, 0, none⟩) 2 2) 1 false tv nilS ha6 (ad 1) 0 1 false).toArray)); rfl; rfl; exact M.r2; exact size45; kernel_rfl; exact oneL rfl; exact Nat.le_of_ble_eq_true (by kernel_rfl); kernel_rfl; intro w5 K hr3; replace HQ := hid (HQ.out.keptC K M.r2 (by decide)); replace HX0 := hid (HX0.out.keptC K M.r2 (by decide)); replace M := Mem.callPut (L1 := [_, _]) M (Or.inr ht7) K hr3; clear K hr3; simp only [List.cons_append, List.nil_append] at M)
          | ((with_reducible apply W_stP (b := t7) (o := 215) (n := 1) (v := n8 v) (rs := (rwL (.slice (some ⟨b, 0, none⟩) 2 2) 1 false tv nilS ha6 (ad 1) v 1 false).toArray)); rfl; rfl; exact M.r2; exact size5; kernel_rfl; exact oneL (l := [n8 v]) rfl; exact Nat.le_of_ble_eq_true (by kernel_rfl); kernel_rfl; intro w5 K hr3; replace HQ := hid (HQ.out.keptC K M.r2 (by decide)); replace HX0 := hid (HX0.out.keptC K M.r2 (by decide)); replace M := Mem.callPut (L1 := [_, _]) M (Or.inr ht7) K hr3; clear K hr3; simp only [List.cons_append, List.nil_append] at M)
          | ((with_reducible apply W_loadAll); rfl; exact M.r2; exact Salg.underlying69; rfl; exact (size69 _ _ _ _ _ _ _ _ _ _ rfl rfl); simp only [Act.put, List.setIfInBounds_toArray, List.set_cons_zero, List.set_cons_succ])
          | ((with_reducible apply W_storeK (b := t6) (vs := (rwL (.slice (some ⟨b, 0, none⟩) 2 2) 1 false tv nilS ha6 (ad 1) v 1 false).toArray)); rfl; rfl; exact M.r5; exact size69Z; kernel_rfl; exact oneT (rwL_one _ _ _ _ _ _ _ _ _ _ rfl rfl); intro w5 K hr3; replace HQ := hid (HQ.out.keptC K M.r5 (by decide)); replace HX0 := hid (HX0.out.keptC K M.r5 (by decide)); replace M := Mem.callPut (L1 := [_, _, _, _, _]) M (Or.inr ht6) K hr3; clear K hr3; simp only [List.cons_append, List.nil_append] at M))
        refine ret_cell1 Salg.results26 rfl M.r5 Salg.underlying69 rfl (size69 _ _ _ _ _ _ _ _ _ _ rfl rfl) rfl ?_
        exact ⟨_, rfl, ⟨b, _, _, rfl, M.r3, HX0.out, code_probe M.r4⟩, M.kept⟩
      · refine S_call rfl Salg.func32 (by kernel_rfl) (by kernel_rfl) (args := [.slice (some ⟨q6, 0, none⟩) 1 1, .slice (some ⟨qb, 0, none⟩) 19 19, .slice (some ⟨q16, 0, none⟩) 9 9, .slice none 0 0]) rfl ?_
        refine (join_cre v q6 qb q16 _ hv M.r1 HQ.out M.r0).mono ?_
        rintro e w2 ⟨u0, rfl, xHX0, K⟩
        have HX0 := hid xHX0
        replace HQ := hid (HQ.out.kept K)
        replace M := M.call K
        clear K xHX0
        refine ⟨_, rfl, ?_⟩
        simp only [Act.put, List.setIfInBounds_toArray, List.set_cons_zero, List.set_cons_succ]
        refine S_pick1 14 (by kernel_rfl) ?_
        refine S_val (v := (.slice (some ⟨b, 0, none⟩) 2 2)) rfl rfl (run_loadCell M.r2 rfl (show (rwL (.slice (some ⟨b, 0, none⟩) 2 2) 1 false tv nilS (ad 2) (ad 1) 0 1 false).toArray[0]? = some (.slice (some ⟨b, 0, none⟩) 2 2) by rfl) Salg.underlying42 rfl) ?_
        simp only [Act.put, List.setIfInBounds_toArray, List.set_cons_zero, List.set_cons_succ]
        refine S_same 18 (by kernel_rfl) (by kernel_rfl) ?_
        refine S_seg 18 20 (by kernel_rfl) (by decide) ?_
        simp only [List.take_succ_cons, List.take_zero, List.drop_zero, List.drop_succ_cons, Nat.sub_zero, Nat.reduceSub]
        go_wp2_with ((with_reducible apply W_stV (b := b) (o := 0) (v := u0)); rfl; rfl; exact HX0.out.one; exact M.r3; exact size40; exact (show 0 < 2 by decide); intro w5 K hr3; rw [show #[nilS, Value.slice (some ⟨pb, 0, none⟩) 19 19].setIfInBounds 0 u0 = #[u0, Value.slice (some ⟨pb, 0, none⟩) 19 19] from rfl] at hr3; replace HQ := hid (HQ.out.keptC K M.r3 (by decide)); replace HX0 := hid (HX0.out.keptC K M.r3 (by decide)); replace M := Mem.callPut (L1 := [_, _, _]) M (Or.inr hb) K hr3; clear K hr3; simp only [List.cons_append, List.nil_append] at M)
        refine S_done ?_
        refine ⟨rfl, ?_⟩
        go_wp2_with fail
        refine (addrNo_any 1 _).mono ?_
        rintro e w2 ⟨rfl, K⟩
        replace HQ := hid (HQ.out.kept K)
        replace HX0 := hid (HX0.out.kept K)
        replace M := M.call K
        clear K
        go_wp2_with fail
        refine (made6 _).mono ?_
        rintro e w2 ⟨rfl, K⟩
        replace HQ := hid (HQ.out.kept K)
        replace HX0 := hid (HX0.out.kept K)
        replace M := M.call K
        clear K
        go_wp2_with (first
          | ((with_reducible apply W_stP (b := t7) (o := 175) (n := 20) (v := A8 ha6) (rs := (rwL (.slice (some ⟨b, 0, none⟩) 2 2) 1 false tv nilS ha6 (ad 1) 0 1 false).toArray)); rfl; rfl; exact M.r2; exact size45; kernel_rfl; exact oneL rfl; exact Nat.le_of_ble_eq_true (by kernel_rfl); kernel_rfl; intro w5 K hr3; replace HQ := hid (HQ.out.keptC K M.r2 (by decide)); replace HX0 := hid (HX0.out.keptC K M.r2 (by decide)); replace M := Mem.callPut (L1 := [_, _]) M (Or.inr ht7) K hr3; clear K hr3; simp only [List.cons_append, List.nil_append] at M)
          | ((with_reducible apply W_stP (b := t7) (o := 215) (n := 1) (v := n8 v) (rs := (rwL (.slice (some ⟨b, 0, none⟩) 2 2) 1 false tv nilS ha6 (ad 1) v 1 false).toArray)); rfl; rfl; exact M.r2; exact size5; kernel_rfl; exact oneL (l := [n8 v]) rfl; exact Nat.le_of_ble_eq_true (by kernel_rfl); kernel_rfl; intro w5 K hr3; replace HQ := hid (HQ.out.keptC K M.r2 (by decide)); replace HX0 := hid (HX0.out.keptC K M.r2 (by decide)); replace M := Mem.callPut (L1 := [_, _]) M (Or.inr ht7) K hr3; clear K hr3; simp only [List.cons_append, List.nil_append] at M)
          | ((with_reducible apply W_loadAll); rfl; exact M.r2; exact Salg.underlying69; rfl; exact (size69 _ _ _ _ _ _ _ _ _ _ rfl rfl); simp only [Act.put, List.setIfInBounds_toArray, List.set_cons_zero, List.set_cons_succ])
          | ((with_reducible apply W_storeK (b := t6) (vs := (rwL (.slice (some ⟨b, 0, none⟩) 2 2) 1 false tv nilS ha6 (ad 1) v 1 false).toArray)); rfl; rfl; exact M.r5; exact size69Z; kernel_rfl; exact oneT (rwL_one _ _ _ _ _ _ _ _ _ _ rfl rfl); intro w5 K hr3; replace HQ := hid (HQ.out.keptC K M.r5 (by decide)); replace HX0 := hid (HX0.out.keptC K M.r5 (by decide)); replace M := Mem.callPut (L1 := [_, _, _, _, _]) M (Or.inr ht6) K hr3; clear K hr3; simp only [List.cons_append, List.nil_append] at M))
        refine ret_cell1 Salg.results26 rfl M.r5 Salg.underlying69 rfl (size69 _ _ _ _ _ _ _ _ _ _ rfl rfl) rfl ?_
        exact ⟨_, rfl, ⟨b, _, _, rfl, M.r3, HX0.out, code_probe M.r4⟩, M.kept⟩
  · refine S_buildN (vs := #[n8 95, n8 82, n8 96, n8 19, n8 96, n8 13, n8 96, n8 v, n8 240]) (e := 5) M rfl (by kernel_rfl) ?_
    clear M
    intro q16 w3 hq16 K M
    replace HQ := hid (HQ.out.kept K)
    clear K
    simp only [Act.put, List.setIfInBounds_toArray, List.set_cons_zero, List.set_cons_succ]
    refine S_pick2 14 15 (by kernel_rfl) ?_ ?_
    · refine S_val (v := (.slice (some ⟨b, 0, none⟩) 2 2)) rfl rfl (run_loadCell M.r1 rfl (show (rwL (.slice (some ⟨b, 0, none⟩) 2 2) 1 false tv nilS (ad 2) (ad 1) 0 1 false).toArray[0]? = some (.slice (some ⟨b, 0, none⟩) 2 2) by rfl) Salg.underlying42 rfl) ?_
      simp only [Act.put, List.setIfInBounds_toArray, List.set_cons_zero, List.set_cons_succ]
      refine S_pick1 15 (by kernel_rfl) ?_
      refine S_buildN (vs := #[n8 114]) (e := 5) M rfl (by kernel_rfl) ?_
      clear M
      intro q6 w3 hq6 K M
      replace HQ := hid (HQ.out.kept K)
      clear K
      simp only [Act.put, List.setIfInBounds_toArray, List.set_cons_zero, List.set_cons_succ]
      refine S_same 17 (by kernel_rfl) (by kernel_rfl) ?_
      refine S_seg 17 20 (by kernel_rfl) (by decide) ?_
      simp only [List.take_succ_cons, List.take_zero, List.drop_zero, List.drop_succ_cons, Nat.sub_zero, Nat.reduceSub]
      go_wp2_with fail
      refine (join_cre v q6 qb q16 _ hv M.r0 HQ.out M.r1).mono ?_
      rintro e w2 ⟨u0, rfl, xHX0, K⟩
      have HX0 := hid xHX0
      replace HQ := hid (HQ.out.kept K)
      replace M := M.call K
      clear K xHX0
      go_wp2_with ((with_reducible apply W_stV (b := b) (o := 0) (v := u0)); rfl; rfl; exact HX0.out.one; exact M.r3; exact size40; exact (show 0 < 2 by decide); intro w5 K hr3; rw [show #[nilS, Value.slice (some ⟨pb, 0, none⟩) 19 19].setIfInBounds 0 u0 = #[u0, Value.slice (some ⟨pb, 0, none⟩) 19 19] from rfl] at hr3; replace HQ := hid (HQ.out.keptC K M.r3 (by decide)); replace HX0 := hid (HX0.out.keptC K M.r3 (by decide)); replace M := Mem.callPut (L1 := [_, _, _]) M (Or.inr hb) K hr3; clear K hr3; simp only [List.cons_append, List.nil_append] at M)
      refine S_done ?_
      refine ⟨rfl, ?_⟩
      go_wp2_with fail
      refine (addrNo_any 1 _).mono ?_
      rintro e w2 ⟨rfl, K⟩
      replace HQ := hid (HQ.out.kept K)
      replace HX0 := hid (HX0.out.kept K)
      replace M := M.call K
      clear K
      go_wp2_with fail
      refine (made6 _).mono ?_
      rintro e w2 ⟨rfl, K⟩
      replace HQ := hid (HQ.out.kept K)
      replace HX0 := hid (HX0.out.kept K)
      replace M := M.call K
      clear K
      go_wp2_with (first
        | ((with_reducible apply W_stP (b := t7) (o := 175) (n := 20) (v := A8 ha6) (rs := (rwL (.slice (some ⟨b, 0, none⟩) 2 2) 1 false tv nilS ha6 (ad 1) 0 1 false).toArray)); rfl; rfl; exact M.r2; exact size45; kernel_rfl; exact oneL rfl; exact Nat.le_of_ble_eq_true (by kernel_rfl); kernel_rfl; intro w5 K hr3; replace HQ := hid (HQ.out.keptC K M.r2 (by decide)); replace HX0 := hid (HX0.out.keptC K M.r2 (by decide)); replace M := Mem.callPut (L1 := [_, _]) M (Or.inr ht7) K hr3; clear K hr3; simp only [List.cons_append, List.nil_append] at M)
        | ((with_reducible apply W_stP (b := t7) (o := 215) (n := 1) (v := n8 v) (rs := (rwL (.slice (some ⟨b, 0, none⟩) 2 2) 1 false tv nilS ha6 (ad 1) v 1 false).toArray)); rfl; rfl; exact M.r2; exact size5; kernel_rfl; exact oneL (l := [n8 v]) rfl; exact Nat.le_of_ble_eq_true (by kernel_rfl); kernel_rfl; intro w5 K hr3; replace HQ := hid (HQ.out.keptC K M.r2 (by decide)); replace HX0 := hid (HX0.out.keptC K M.r2 (by decide)); replace M := Mem.callPut (L1 := [_, _]) M (Or.inr ht7) K hr3; clear K hr3; simp only [List.cons_append, List.nil_append] at M)
        | ((with_reducible apply W_loadAll); rfl; exact M.r2; exact Salg.underlying69; rfl; exact (size69 _ _ _ _ _ _ _ _ _ _ rfl rfl); simp only [Act.put, List.setIfInBounds_toArray, List.set_cons_zero, List.set_cons_succ])
        | ((with_reducible apply W_storeK (b := t6) (vs := (rwL (.slice (some ⟨b, 0, none⟩) 2 2) 1 false tv nilS ha6 (ad 1) v 1 false).toArray)); rfl; rfl; exact M.r5; exact size69Z; kernel_rfl; exact oneT (rwL_one _ _ _ _ _ _ _ _ _ _ rfl rfl); intro w5 K hr3; replace HQ := hid (HQ.out.keptC K M.r5 (by decide)); replace HX0 := hid (HX0.out.keptC K M.r5 (by decide)); replace M := Mem.callPut (L1 := [_, _, _, _, _]) M (Or.inr ht6) K hr3; clear K hr3; simp only [List.cons_append, List.nil_append] at M))
      refine ret_cell1 Salg.results26 rfl M.r5 Salg.underlying69 rfl (size69 _ _ _ _ _ _ _ _ _ _ rfl rfl) rfl ?_
      exact ⟨_, rfl, ⟨b, _, _, rfl, M.r3, HX0.out, code_probe M.r4⟩, M.kept⟩
    · refine S_buildN (vs := #[n8 114]) (e := 5) M rfl (by kernel_rfl) ?_
      clear M
      intro q6 w3 hq6 K M
      replace HQ := hid (HQ.out.kept K)
      clear K
      simp only [Act.put, List.setIfInBounds_toArray, List.set_cons_zero, List.set_cons_succ]
      refine S_pick2 14 17 (by kernel_rfl) ?_ ?_
      · refine S_val (v := (.slice (some ⟨b, 0, none⟩) 2 2)) rfl rfl (run_loadCell M.r2 rfl (show (rwL (.slice (some ⟨b, 0, none⟩) 2 2) 1 false tv nilS (ad 2) (ad 1) 0 1 false).toArray[0]? = some (.slice (some ⟨b, 0, none⟩) 2 2) by rfl) Salg.underlying42 rfl) ?_
        simp only [Act.put, List.setIfInBounds_toArray, List.set_cons_zero, List.set_cons_succ]
        refine S_same 17 (by kernel_rfl) (by kernel_rfl) ?_
        refine S_seg 17 20 (by kernel_rfl) (by decide) ?_
        simp only [List.take_succ_cons, List.take_zero, List.drop_zero, List.drop_succ_cons, Nat.sub_zero, Nat.reduceSub]
        go_wp2_with fail
        refine (join_cre v q6 qb q16 _ hv M.r0 HQ.out M.r1).mono ?_
        rintro e w2 ⟨u0, rfl, xHX0, K⟩
        have HX0 := hid xHX0
        replace HQ := hid (HQ.out.kept K)
        replace M := M.call K
        clear K xHX0
        go_wp2_with ((with_reducible apply W_stV (b := b) (o := 0) (v := u0)); rfl; rfl; exact HX0.out.one; exact M.r3; exact size40; exact (show 0 < 2 by decide); intro w5 K hr3; rw [show #[nilS, Value.slice (some ⟨pb, 0, none⟩) 19 19].setIfInBounds 0 u0 = #[u0, Value.slice (some ⟨pb, 0, none⟩) 19 19] from rfl] at hr3; replace HQ := hid (HQ.out.keptC K M.r3 (by decide)); replace HX0 := hid (HX0.out.keptC K M.r3 (by decide)); replace M := Mem.callPut (L1 := [_, _, _]) M (Or.inr hb) K hr3; clear K hr3; simp only [List.cons_append, List.nil_append] at M)
        refine S_done ?_
        refine ⟨rfl, ?_⟩
        go_wp2_with fail
        refine (addrNo_any 1 _).mono ?_
        rintro e w2 ⟨rfl, K⟩
        replace HQ := hid (HQ.out.kept K)
        replace HX0 := hid (HX0.out.kept K)
        replace M := M.call K
        clear K
        go_wp2_with fail
        refine (made6 _).mono ?_
        rintro e w2 ⟨rfl, K⟩
        replace HQ := hid (HQ.out.kept K)
        replace HX0 := hid (HX0.out.kept K)
        replace M := M.call K
        clear K
        go_wp2_with (first
          | ((with_reducible apply W_stP (b := t7) (o := 175) (n := 20) (v := A8 ha6) (rs := (rwL (.slice (some ⟨b, 0, none⟩) 2 2) 1 false tv nilS ha6 (ad 1) 0 1 false).toArray)); rfl; rfl; exact M.r2; exact size45; kernel_rfl; exact oneL rfl; exact Nat.le_of_ble_eq_true (by kernel_rfl); kernel_rfl; intro w5 K hr3; replace HQ := hid (HQ.out.keptC K M.r2 (by decide)); replace HX0 := hid (HX0.out.keptC K M.r2 (by decide)); replace M := Mem.callPut (L1 := [_, _]) M (Or.inr ht7) K hr3; clear K hr3; simp only [List.cons_append, List.nil_append] at M)
          | ((with_reducible apply W_stP (b := t7) (o := 215) (n := 1) (v := n8 v) (rs := (rwL (.slice (some ⟨b, 0, none⟩) 2 2) 1 false tv nilS ha6 (ad 1) v 1 false).toArray)); rfl; rfl; exact M.r2; exact size5; kernel_rfl; exact oneL (l := [n8 v]) rfl; exact Nat.le_of_ble_eq_true (by kernel_rfl); kernel_rfl; intro w5 K hr3; replace HQ := hid (HQ.out.keptC K M.r2 (by decide)); replace HX0 := hid (HX0.out.keptC K M.r2 (by decide)); replace M := Mem.callPut (L1 := [_, _]) M (Or.inr ht7) K hr3; clear K hr3; simp only [List.cons_append, List.nil_append] at M)
          | ((with_reducible apply W_loadAll); rfl; exact M.r2; exact Salg.underlying69; rfl; exact (size69 _ _ _ _ _ _ _ _ _ _ rfl rfl); simp only [Act.put, List.setIfInBounds_toArray, List.set_cons_zero, List.set_cons_succ])
          | ((with_reducible apply W_storeK (b := t6) (vs := (rwL (.slice (some ⟨b, 0, none⟩) 2 2) 1 false tv nilS ha6 (ad 1) v 1 false).toArray)); rfl; rfl; exact M.r5; exact size69Z; kernel_rfl; exact oneT (rwL_one _ _ _ _ _ _ _ _ _ _ rfl rfl); intro w5 K hr3; replace HQ := hid (HQ.out.keptC K M.r5 (by decide)); replace HX0 := hid (HX0.out.keptC K M.r5 (by decide)); replace M := Mem.callPut (L1 := [_, _, _, _, _]) M (Or.inr ht6) K hr3; clear K hr3; simp only [List.cons_append, List.nil_append] at M))
        refine ret_cell1 Salg.results26 rfl M.r5 Salg.underlying69 rfl (size69 _ _ _ _ _ _ _ _ _ _ rfl rfl) rfl ?_
        exact ⟨_, rfl, ⟨b, _, _, rfl, M.r3, HX0.out, code_probe M.r4⟩, M.kept⟩
      · refine S_call rfl Salg.func32 (by kernel_rfl) (by kernel_rfl) (args := [.slice (some ⟨q6, 0, none⟩) 1 1, .slice (some ⟨qb, 0, none⟩) 19 19, .slice (some ⟨q16, 0, none⟩) 9 9, .slice none 0 0]) rfl ?_
        refine (join_cre v q6 qb q16 _ hv M.r0 HQ.out M.r1).mono ?_
        rintro e w2 ⟨u0, rfl, xHX0, K⟩
        have HX0 := hid xHX0
        replace HQ := hid (HQ.out.kept K)
        replace M := M.call K
        clear K xHX0
        refine ⟨_, rfl, ?_⟩
        simp only [Act.put, List.setIfInBounds_toArray, List.set_cons_zero, List.set_cons_succ]
        refine S_pick1 14 (by kernel_rfl) ?_
        refine S_val (v := (.slice (some ⟨b, 0, none⟩) 2 2)) rfl rfl (run_loadCell M.r2 rfl (show (rwL (.slice (some ⟨b, 0, none⟩) 2 2) 1 false tv nilS (ad 2) (ad 1) 0 1 false).toArray[0]? = some (.slice (some ⟨b, 0, none⟩) 2 2) by rfl) Salg.underlying42 rfl) ?_
        simp only [Act.put, List.setIfInBounds_toArray, List.set_cons_zero, List.set_cons_succ]
        refine S_same 18 (by kernel_rfl) (by kernel_rfl) ?_
        refine S_seg 18 20 (by kernel_rfl) (by decide) ?_
        simp only [List.take_succ_cons, List.take_zero, List.drop_zero, List.drop_succ_cons, Nat.sub_zero, Nat.reduceSub]
        go_wp2_with ((with_reducible apply W_stV (b := b) (o := 0) (v := u0)); rfl; rfl; exact HX0.out.one; exact M.r3; exact size40; exact (show 0 < 2 by decide); intro w5 K hr3; rw [show #[nilS, Value.slice (some ⟨pb, 0, none⟩) 19 19].setIfInBounds 0 u0 = #[u0, Value.slice (some ⟨pb, 0, none⟩) 19 19] from rfl] at hr3; replace HQ := hid (HQ.out.keptC K M.r3 (by decide)); replace HX0 := hid (HX0.out.keptC K M.r3 (by decide)); replace M := Mem.callPut (L1 := [_, _, _]) M (Or.inr hb) K hr3; clear K hr3; simp only [List.cons_append, List.nil_append] at M)
        refine S_done ?_
        refine ⟨rfl, ?_⟩
        go_wp2_with fail
        refine (addrNo_any 1 _).mono ?_
        rintro e w2 ⟨rfl, K⟩
        replace HQ := hid (HQ.out.kept K)
        replace HX0 := hid (HX0.out.kept K)
        replace M := M.call K
        clear K
        go_wp2_with fail
        refine (made6 _).mono ?_
        rintro e w2 ⟨rfl, K⟩
        replace HQ := hid (HQ.out.kept K)
        replace HX0 := hid (HX0.out.kept K)
        replace M := M.call K
        clear K
        go_wp2_with (first
          | ((with_reducible apply W_stP (b := t7) (o := 175) (n := 20) (v := A8 ha6) (rs := (rwL (.slice (some ⟨b, 0, none⟩) 2 2) 1 false tv nilS ha6 (ad 1) 0 1 false).toArray)); rfl; rfl; exact M.r2; exact size45; kernel_rfl; exact oneL rfl; exact Nat.le_of_ble_eq_true (by kernel_rfl); kernel_rfl; intro w5 K hr3; replace HQ := hid (HQ.out.keptC K M.r2 (by decide)); replace HX0 := hid (HX0.out.keptC K M.r2 (by decide)); replace M := Mem.callPut (L1 := [_, _]) M (Or.inr ht7) K hr3; clear K hr3; simp only [List.cons_append, List.nil_append] at M)
          | ((with_reducible apply W_stP (b := t7) (o := 215) (n := 1) (v := n8 v) (rs := (rwL (.slice (some ⟨b, 0, none⟩) 2 2) 1 false tv nilS ha6 (ad 1) v 1 false).toArray)); rfl; rfl; exact M.r2; exact size5; kernel_rfl; exact oneL (l := [n8 v]) rfl; exact Nat.le_of_ble_eq_true (by kernel_rfl); kernel_rfl; intro w5 K hr3; replace HQ := hid (HQ.out.keptC K M.r2 (by decide)); replace HX0 := hid (HX0.out.keptC K M.r2 (by decide)); replace M := Mem.callPut (L1 := [_, _]) M (Or.inr ht7) K hr3; clear K hr3; simp only [List.cons_append, List.nil_append] at M)
          | ((with_reducible apply W_loadAll); rfl; exact M.r2; exact Salg.underlying69; rfl; exact (size69 _ _ _ _ _ _ _ _ _ _ rfl rfl); simp only [Act.put, List.setIfInBounds_toArray, List.set_cons_zero, List.set_cons_succ])
          | ((with_reducible apply W_storeK (b := t6) (vs := (rwL (.slice (some ⟨b, 0, none⟩) 2 2) 1 false tv nilS ha6 (ad 1) v 1 false).toArray)); rfl; rfl; exact M.r5; exact size69Z; kernel_rfl; exact oneT (rwL_one _ _ _ _ _ _ _ _ _ _ rfl rfl); intro w5 K hr3; replace HQ := hid (HQ.out.keptC K M.r5 (by decide)); replace HX0 := hid (HX0.out.keptC K M.r5 (by decide)); replace M := Mem.callPut (L1 := [_, _, _, _, _]) M (Or.inr ht6) K hr3; clear K hr3; simp only [List.cons_append, List.nil_append] at M))
        refine ret_cell1 Salg.results26 rfl M.r5 Salg.underlying69 rfl (size69 _ _ _ _ _ _ _ _ _ _ rfl rfl) rfl ?_
        exact ⟨_, rfl, ⟨b, _, _, rfl, M.r3, HX0.out, code_probe M.r4⟩, M.kept⟩
end Go.Proofs.YgcsalGreat

/-
  Begin at the accounts of Context.
-/
import Derived.Test.YgcsalGreatCx46
set_option linter.unusedSimpArgs false
set_option linter.unusedVariables false
namespace Go.Own
open Go.Proofs Go.Proofs.YgcsalGreat
/-- The accounts behind Begin. -/
def B3 (x1 x2 xs : Nat) (c1 c2 : List Nat) : List AD := [⟨ad 1, 1, x1, c1⟩, ⟨ad 2, 1, x2, c2⟩, ⟨ad 240, 1, xs, []⟩]
def B4 (x1 x2 xs : Nat) (c1 c2 c3 : List Nat) : List AD := [⟨ad 1, 1, x1, c1⟩, ⟨ad 2, 1, x2, c2⟩, ⟨ad 3, 1, 0, c3⟩, ⟨ad 240, 1, xs, []⟩]
theorem big_lt : bigT < 256 ^ 100 := by decide
theorem v_lt {v : Nat} (h : v < 256) : v < bigT := Nat.lt_trans h (by decide)
end Go.Own
namespace Go.Proofs.YgcsalGreat
open Go.RowKit Go.Own

set_option maxHeartbeats 4000000 in
set_option maxRecDepth 100000 in
theorem addrOf_one (v : Value) (w : World) (hv : NumV w v 1) : Calls Salg.prog 191 #[v] w fun e w' => e = .returned (A8 (ad 1)) ∧ Kept [] w w' := by
  have M := Mem.start w []
  obtain ⟨ds, ⟨p, c, rfl, hc1, hc2, hd, hsm⟩, ht, hval⟩ := hv
  obtain rfl : ds = [1] := tight_inj hsm (by intro x hx; simp at hx; omega) ht (by intro x hx; simp at hx; omega) hval
  obtain ⟨b, t, cs, rfl, hr, hpre⟩ := hd.at (i := 0) (by decide)
  have HG : Hid ((cs.map n8).toArray[0]? = some (n8 1)) := by show _ = _; simp [pre_get hpre (i := 0) (by decide)]
  clear hd hpre hsm ht hval
  simp only [List.length_cons, List.length_nil] at *
  go_enter Salg.func191, Salg.ntmps191
  go_wp2_with (first
    | ((with_reducible apply L_allocA (d := 2) M); exact zero45; clear M; intro t2 w1 ht2 M; simp only [Act.put, List.setIfInBounds_toArray, List.set_cons_zero, List.set_cons_succ])
    | ((with_reducible apply L_allocA (d := 3) M); exact zero45; clear M; intro t3 w2 ht3 M; simp only [Act.put, List.setIfInBounds_toArray, List.set_cons_zero, List.set_cons_succ]))
  go_loopw [4] (fun iv wr => (iv = .int .i64 0 ∧ Mem w [] [(t3, R8 45 (List.replicate 20 0)), (t2, R8 45 (List.replicate 20 0))] wr) ∨ (iv = .int .i64 1 ∧ Mem w [] [(t3, R8 45 (ad 1)), (t2, R8 45 (List.replicate 20 0))] wr)) (fun iv _ => (1 - intOf iv).toNat)
  case atStart => exact .inl ⟨rfl, M⟩
  case round =>
    clear M
    rcases hrel with ⟨rfl, M⟩ | ⟨rfl, M⟩
    · go_wp2_with (first
        | ((with_reducible apply W_loadCell); rfl; exact M.kept.row hr (by simp); exact HG.out; exact Salg.underlying5; rfl; simp only [Act.put, List.setIfInBounds_toArray, List.set_cons_zero, List.set_cons_succ])
        | ((with_reducible apply W_st8_0 (o := 19) (m := 1)); rfl; rfl; rfl; exact M; exact Or.inr ht3; exact size5; decide; clear M; intro w5 M))
      go_roundw
      case rel => exact .inr ⟨by go_num, M⟩
      case measure => decide
    · go_wp2_with (first
        | ((with_reducible apply W_loadAll); rfl; exact M.r0; exact Salg.underlying45; rfl; exact size45; simp only [Act.put, List.setIfInBounds_toArray, List.set_cons_zero, List.set_cons_succ])
        | ((with_reducible apply W_storeK (b := t2) (vs := ((ad 1).map n8).toArray)); rfl; rfl; exact M.r1; exact size45; rfl; exact oneL rfl; intro w6 K hr3; replace M := Mem.callPut (L1 := [(t3, _)]) M (Or.inr ht2) K hr3; clear K hr3; simp only [List.cons_append, List.nil_append] at M))
      exact ret_cell1 Salg.results191 rfl M.r1 Salg.underlying45 rfl size45 rfl ⟨rfl, M.kept⟩

theorem target_one : TargetOK 1 := ⟨by decide, fun v w h => addrOf_one v w h, fun w => nativeAt_one w⟩
theorem beg3_1 (c tv : Nat) (c1 c2 : List Nat) (va tvv : Value) (w : World) (hc : w.heap[c]? = some (.cells (ch0 va tvv) 119 (0, 0))) (hv : AccD (D3 c1 c2) w va) (hT : NumV w tvv bigT) (htv : tv < 256) :
    Calls Salg.prog 16 #[.pointer (some ⟨c, 0, none⟩), .agg (txV 1 tv).toArray] w fun e w' => e = .returned (.int .u8 0) ∧ ∃ (fb cap : Nat) (E : XEnv) (cur : Array Value) (gv fv cw iu a0 a1 a3 a6 : Value), BegY w w' c fb cap E cur gv fv cw iu a0 a1 a3 a6 1 tv c1 (laT 1) (B3 tv 0 (bigT - tv) c1 c2) bigT := by
  by_cases h0 : tv = 0
  · subst h0
    have e2 : dPut ⟨ad 240, 1, bigT - 0, []⟩ false (dPut ⟨ad 240, 1, bigT, []⟩ false (D3 c1 c2)) = (B3 0 0 (bigT - 0) c1 c2) := by kernel_rfl
    refine (beginY_0 c 1 0 va tvv (D3 c1 c2) bigT ⟨ad 1, 1, 0, c1⟩ ⟨ad 240, 1, bigT - 0, []⟩ ⟨ad 1, 1, 0, c1⟩ w hc hv (by kernel_rfl) (by decide) big_lt (by decide) target_one (by kernel_rfl) (by rw [e2]; kernel_rfl) (by decide) (by decide) (by rw [e2]; kernel_rfl) (by show 3 ≤ 15; decide) (by show 0 < 3; decide) (by rw [show (dPut ⟨ad 240, 1, bigT, []⟩ false (D3 c1 c2)).length = 3 by kernel_rfl]; decide) (by rw [e2]; show 3 ≤ 15; decide) (by rw [e2]; show 0 < 3; decide) rfl hT.one).mono ?_
    rintro e w' ⟨fb, cap, cur, E, gv, fv, cw, iu, a0, a1, a3, a6, rfl, x1, x2, x3, x4, x5, x6, x7, x8, x9, x10, x11, x12, x13, x14, x15, x16, x17, x18, x19, K⟩
    rw [e2] at x13
    exact ⟨rfl, fb, cap, E, cur, gv, fv, cw, iu, a0, a1, a3, a6, ⟨x1, x2, x4, x5, x6, x7, x8, x9, x10, x11, x12, x13, ⟨x14, x15, x17, x18, by rw [x16]; exact hT.keptN K (hard1 hc (.inl rfl) (ch0_nb _ _)), x19⟩, ⟨K, x3⟩⟩⟩
  · have e2 : dPut ⟨ad 240, 1, bigT - 0, []⟩ false (dPut ⟨ad 240, 1, bigT, []⟩ false (D3 c1 c2)) = (B3 0 0 (bigT - 0) c1 c2) := by kernel_rfl
    have e3 : dPut ⟨ad 240, 1, bigT - 0 - tv, []⟩ false (dPut ⟨ad 240, 1, bigT - 0, []⟩ false (dPut ⟨ad 240, 1, bigT, []⟩ false (D3 c1 c2))) = (B3 0 0 (bigT - 0 - tv) c1 c2) := by kernel_rfl
    have e4 : dPut ⟨ad 1, 1, 0 + tv, c1⟩ false (dPut ⟨ad 240, 1, bigT - 0 - tv, []⟩ false (dPut ⟨ad 240, 1, bigT - 0, []⟩ false (dPut ⟨ad 240, 1, bigT, []⟩ false (D3 c1 c2)))) = (B3 (0 + tv) 0 (bigT - 0 - tv) c1 c2) := by kernel_rfl
    have hb : tv < bigT := v_lt htv
    refine (beginY_v c 1 tv va tvv (D3 c1 c2) bigT ⟨ad 1, 1, 0, c1⟩ ⟨ad 240, 1, bigT - 0, []⟩ ⟨ad 1, 1, 0, c1⟩ w hc hv (by kernel_rfl) hb big_lt htv target_one (by kernel_rfl) (by rw [e2]; kernel_rfl) (by decide) (Nat.le_of_lt hb) (by rw [e2]; kernel_rfl) (by show 3 ≤ 15; decide) (by show 0 < 3; decide) (by rw [show (dPut ⟨ad 240, 1, bigT, []⟩ false (D3 c1 c2)).length = 3 by kernel_rfl]; decide) (by rw [e2]; show 3 ≤ 15; decide) (by rw [e2]; show 0 < 3; decide) h0 (by decide) (by show 1 ≠ 0; decide) (by rw [e3]; kernel_rfl) (by show 0 < 256 ^ 100; decide) (by rw [e3]; show 3 ≤ 100; decide) hT.one).mono ?_
    rintro e w' ⟨fb, cap, cur, E, gv, fv, cw, iu, a0, a1, a3, a6, rfl, x1, x2, x3, x4, x5, x6, x7, x8, x9, x10, x11, x12, x13, x14, x15, x16, x17, x18, x19, K⟩
    rw [e4, Nat.zero_add, Nat.sub_zero] at x13
    exact ⟨rfl, fb, cap, E, cur, gv, fv, cw, iu, a0, a1, a3, a6, ⟨x1, x2, x4, x5, x6, x7, x8, x9, x10, x11, x12, x13, ⟨x14, x15, x17, x18, by rw [x16]; exact hT.keptN K (hard1 hc (.inl rfl) (ch0_nb _ _)), x19⟩, ⟨K, x3⟩⟩⟩
theorem beg3_2 (c tv : Nat) (c1 c2 : List Nat) (va tvv : Value) (w : World) (hc : w.heap[c]? = some (.cells (ch0 va tvv) 119 (0, 0))) (hv : AccD (D3 c1 c2) w va) (hT : NumV w tvv bigT) (htv : tv < 256) :
    Calls Salg.prog 16 #[.pointer (some ⟨c, 0, none⟩), .agg (txV 2 tv).toArray] w fun e w' => e = .returned (.int .u8 0) ∧ ∃ (fb cap : Nat) (E : XEnv) (cur : Array Value) (gv fv cw iu a0 a1 a3 a6 : Value), BegY w w' c fb cap E cur gv fv cw iu a0 a1 a3 a6 2 tv c2 (laT 2) (B3 0 tv (bigT - tv) c1 c2) bigT := by
  by_cases h0 : tv = 0
  · subst h0
    have e2 : dPut ⟨ad 240, 1, bigT - 0, []⟩ false (dPut ⟨ad 240, 1, bigT, []⟩ false (D3 c1 c2)) = (B3 0 0 (bigT - 0) c1 c2) := by kernel_rfl
    refine (beginY_0 c 2 0 va tvv (D3 c1 c2) bigT ⟨ad 2, 1, 0, c2⟩ ⟨ad 240, 1, bigT - 0, []⟩ ⟨ad 2, 1, 0, c2⟩ w hc hv (by kernel_rfl) (by decide) big_lt (by decide) target_two (by kernel_rfl) (by rw [e2]; kernel_rfl) (by decide) (by decide) (by rw [e2]; kernel_rfl) (by show 3 ≤ 15; decide) (by show 0 < 3; decide) (by rw [show (dPut ⟨ad 240, 1, bigT, []⟩ false (D3 c1 c2)).length = 3 by kernel_rfl]; decide) (by rw [e2]; show 3 ≤ 15; decide) (by rw [e2]; show 0 < 3; decide) rfl hT.one).mono ?_
    rintro e w' ⟨fb, cap, cur, E, gv, fv, cw, iu, a0, a1, a3, a6, rfl, x1, x2, x3, x4, x5, x6, x7, x8, x9, x10, x11, x12, x13, x14, x15, x16, x17, x18, x19, K⟩
    rw [e2] at x13
    exact ⟨rfl, fb, cap, E, cur, gv, fv, cw, iu, a0, a1, a3, a6, ⟨x1, x2, x4, x5, x6, x7, x8, x9, x10, x11, x12, x13, ⟨x14, x15, x17, x18, by rw [x16]; exact hT.keptN K (hard1 hc (.inl rfl) (ch0_nb _ _)), x19⟩, ⟨K, x3⟩⟩⟩
  · have e2 : dPut ⟨ad 240, 1, bigT - 0, []⟩ false (dPut ⟨ad 240, 1, bigT, []⟩ false (D3 c1 c2)) = (B3 0 0 (bigT - 0) c1 c2) := by kernel_rfl
    have e3 : dPut ⟨ad 240, 1, bigT - 0 - tv, []⟩ false (dPut ⟨ad 240, 1, bigT - 0, []⟩ false (dPut ⟨ad 240, 1, bigT, []⟩ false (D3 c1 c2))) = (B3 0 0 (bigT - 0 - tv) c1 c2) := by kernel_rfl
    have e4 : dPut ⟨ad 2, 1, 0 + tv, c2⟩ false (dPut ⟨ad 240, 1, bigT - 0 - tv, []⟩ false (dPut ⟨ad 240, 1, bigT - 0, []⟩ false (dPut ⟨ad 240, 1, bigT, []⟩ false (D3 c1 c2)))) = (B3 0 (0 + tv) (bigT - 0 - tv) c1 c2) := by kernel_rfl
    have hb : tv < bigT := v_lt htv
    refine (beginY_v c 2 tv va tvv (D3 c1 c2) bigT ⟨ad 2, 1, 0, c2⟩ ⟨ad 240, 1, bigT - 0, []⟩ ⟨ad 2, 1, 0, c2⟩ w hc hv (by kernel_rfl) hb big_lt htv target_two (by kernel_rfl) (by rw [e2]; kernel_rfl) (by decide) (Nat.le_of_lt hb) (by rw [e2]; kernel_rfl) (by show 3 ≤ 15; decide) (by show 0 < 3; decide) (by rw [show (dPut ⟨ad 240, 1, bigT, []⟩ false (D3 c1 c2)).length = 3 by kernel_rfl]; decide) (by rw [e2]; show 3 ≤ 15; decide) (by rw [e2]; show 0 < 3; decide) h0 (by decide) (by show 1 ≠ 0; decide) (by rw [e3]; kernel_rfl) (by show 0 < 256 ^ 100; decide) (by rw [e3]; show 3 ≤ 100; decide) hT.one).mono ?_
    rintro e w' ⟨fb, cap, cur, E, gv, fv, cw, iu, a0, a1, a3, a6, rfl, x1, x2, x3, x4, x5, x6, x7, x8, x9, x10, x11, x12, x13, x14, x15, x16, x17, x18, x19, K⟩
    rw [e4, Nat.zero_add, Nat.sub_zero] at x13
    exact ⟨rfl, fb, cap, E, cur, gv, fv, cw, iu, a0, a1, a3, a6, ⟨x1, x2, x4, x5, x6, x7, x8, x9, x10, x11, x12, x13, ⟨x14, x15, x17, x18, by rw [x16]; exact hT.keptN K (hard1 hc (.inl rfl) (ch0_nb _ _)), x19⟩, ⟨K, x3⟩⟩⟩
theorem beg4_1 (c tv : Nat) (c1 c2 c3 : List Nat) (va tvv : Value) (w : World) (hc : w.heap[c]? = some (.cells (ch0 va tvv) 119 (0, 0))) (hv : AccD (D4 c1 c2 c3) w va) (hT : NumV w tvv bigT) (htv : tv < 256) :
    Calls Salg.prog 16 #[.pointer (some ⟨c, 0, none⟩), .agg (txV 1 tv).toArray] w fun e w' => e = .returned (.int .u8 0) ∧ ∃ (fb cap : Nat) (E : XEnv) (cur : Array Value) (gv fv cw iu a0 a1 a3 a6 : Value), BegY w w' c fb cap E cur gv fv cw iu a0 a1 a3 a6 1 tv c1 (laT 1) (B4 tv 0 (bigT - tv) c1 c2 c3) bigT := by
  by_cases h0 : tv = 0
  · subst h0
    have e2 : dPut ⟨ad 240, 1, bigT - 0, []⟩ false (dPut ⟨ad 240, 1, bigT, []⟩ false (D4 c1 c2 c3)) = (B4 0 0 (bigT - 0) c1 c2 c3) := by kernel_rfl
    refine (beginY_0 c 1 0 va tvv (D4 c1 c2 c3) bigT ⟨ad 1, 1, 0, c1⟩ ⟨ad 240, 1, bigT - 0, []⟩ ⟨ad 1, 1, 0, c1⟩ w hc hv (by kernel_rfl) (by decide) big_lt (by decide) target_one (by kernel_rfl) (by rw [e2]; kernel_rfl) (by decide) (by decide) (by rw [e2]; kernel_rfl) (by show 4 ≤ 15; decide) (by show 0 < 4; decide) (by rw [show (dPut ⟨ad 240, 1, bigT, []⟩ false (D4 c1 c2 c3)).length = 4 by kernel_rfl]; decide) (by rw [e2]; show 4 ≤ 15; decide) (by rw [e2]; show 0 < 4; decide) rfl hT.one).mono ?_
    rintro e w' ⟨fb, cap, cur, E, gv, fv, cw, iu, a0, a1, a3, a6, rfl, x1, x2, x3, x4, x5, x6, x7, x8, x9, x10, x11, x12, x13, x14, x15, x16, x17, x18, x19, K⟩
    rw [e2] at x13
    exact ⟨rfl, fb, cap, E, cur, gv, fv, cw, iu, a0, a1, a3, a6, ⟨x1, x2, x4, x5, x6, x7, x8, x9, x10, x11, x12, x13, ⟨x14, x15, x17, x18, by rw [x16]; exact hT.keptN K (hard1 hc (.inl rfl) (ch0_nb _ _)), x19⟩, ⟨K, x3⟩⟩⟩
  · have e2 : dPut ⟨ad 240, 1, bigT - 0, []⟩ false (dPut ⟨ad 240, 1, bigT, []⟩ false (D4 c1 c2 c3)) = (B4 0 0 (bigT - 0) c1 c2 c3) := by kernel_rfl
    have e3 : dPut ⟨ad 240, 1, bigT - 0 - tv, []⟩ false (dPut ⟨ad 240, 1, bigT - 0, []⟩ false (dPut ⟨ad 240, 1, bigT, []⟩ false (D4 c1 c2 c3))) = (B4 0 0 (bigT - 0 - tv) c1 c2 c3) := by kernel_rfl
    have e4 : dPut ⟨ad 1, 1, 0 + tv, c1⟩ false (dPut ⟨ad 240, 1, bigT - 0 - tv, []⟩ false (dPut ⟨ad 240, 1, bigT - 0, []⟩ false (dPut ⟨ad 240, 1, bigT, []⟩ false (D4 c1 c2 c3)))) = (B4 (0 + tv) 0 (bigT - 0 - tv) c1 c2 c3) := by kernel_rfl
    have hb : tv < bigT := v_lt htv
    refine (beginY_v c 1 tv va tvv (D4 c1 c2 c3) bigT ⟨ad 1, 1, 0, c1⟩ ⟨ad 240, 1, bigT - 0, []⟩ ⟨ad 1, 1, 0, c1⟩ w hc hv (by kernel_rfl) hb big_lt htv target_one (by kernel_rfl) (by rw [e2]; kernel_rfl) (by decide) (Nat.le_of_lt hb) (by rw [e2]; kernel_rfl) (by show 4 ≤ 15; decide) (by show 0 < 4; decide) (by rw [show (dPut ⟨ad 240, 1, bigT, []⟩ false (D4 c1 c2 c3)).length = 4 by kernel_rfl]; decide) (by rw [e2]; show 4 ≤ 15; decide) (by rw [e2]; show 0 < 4; decide) h0 (by decide) (by show 1 ≠ 0; decide) (by rw [e3]; kernel_rfl) (by show 0 < 256 ^ 100; decide) (by rw [e3]; show 4 ≤ 100; decide) hT.one).mono ?_
    rintro e w' ⟨fb, cap, cur, E, gv, fv, cw, iu, a0, a1, a3, a6, rfl, x1, x2, x3, x4, x5, x6, x7, x8, x9, x10, x11, x12, x13, x14, x15, x16, x17, x18, x19, K⟩
    rw [e4, Nat.zero_add, Nat.sub_zero] at x13
    exact ⟨rfl, fb, cap, E, cur, gv, fv, cw, iu, a0, a1, a3, a6, ⟨x1, x2, x4, x5, x6, x7, x8, x9, x10, x11, x12, x13, ⟨x14, x15, x17, x18, by rw [x16]; exact hT.keptN K (hard1 hc (.inl rfl) (ch0_nb _ _)), x19⟩, ⟨K, x3⟩⟩⟩
theorem begC_7 (c tv qb : Nat) (va tvv : Value) (w : World) (hc : w.heap[c]? = some (.cells (ch0 va tvv) 119 (0, 0))) (hv : AccD (D3 [] probeL) w va) (hT : NumV w tvv bigT) (htv : tv < 256) (hq : w.heap[qb]? = some (R8 5 probeL)) :
    Calls Salg.prog 16 #[.pointer (some ⟨c, 0, none⟩), .agg (txC tv qb 19).toArray] w fun e w' => e = .returned (.int .u8 0) ∧ ∃ (fb cap : Nat) (E : XEnv) (cur : Array Value) (gv fv cw iu a0 a1 a3 a6 : Value) (G : Nat), BegC w w' c fb cap E cur gv fv cw iu a0 a1 a3 a6 tv G laC [⟨ad 1, 1, 0, []⟩, ⟨ad 2, 1, 0, probeL⟩, ⟨ad 240, 1, (bigT - tv), []⟩, ⟨ha7, 1, tv, []⟩] bigT := by
  have hdv : NatV w (Value.slice (some ⟨qb, 0, none⟩) 19 19) probeL := NatV.row hq small_probe (by decide)
  have e1 : dPut ⟨ad 240, 1, bigT, []⟩ false (D3 [] probeL) = [⟨ad 1, 1, 0, []⟩, ⟨ad 2, 1, 0, probeL⟩, ⟨ad 240, 1, bigT, []⟩] := by kernel_rfl
  have e2 : dPut ⟨ad 240, 1, bigT - 0, []⟩ false (dPut ⟨ad 240, 1, bigT, []⟩ false (D3 [] probeL)) = [⟨ad 1, 1, 0, []⟩, ⟨ad 2, 1, 0, probeL⟩, ⟨ad 240, 1, bigT - 0, []⟩] := by kernel_rfl
  have eN : dPut ⟨ha7, 1, 0, []⟩ false (dPut ⟨ad 240, 1, bigT - 0, []⟩ false (dPut ⟨ad 240, 1, bigT, []⟩ false (D3 [] probeL))) = [⟨ad 1, 1, 0, []⟩, ⟨ad 2, 1, 0, probeL⟩, ⟨ad 240, 1, bigT - 0, []⟩, ⟨ha7, 1, 0, []⟩] := by kernel_rfl
  by_cases h0 : tv = 0
  · subst h0
    refine (beginC_0 c 0 qb 19 5 probeL va tvv (D3 [] probeL) bigT ⟨ad 240, 1, bigT - 0, []⟩ ⟨ha7, 1, 0, []⟩ w hc hv (by kernel_rfl) (by decide) big_lt (by decide) hdv hq (List.prefix_refl _) (by rw [e1]; kernel_rfl) (by rw [eN]; kernel_rfl) (by decide) (by decide) (by rw [e2]; kernel_rfl) (by show 3 ≤ 15; decide) (by show 0 < 3; decide) (by rw [e1]; show 3 ≤ 15; decide) (by rw [eN]; show 4 ≤ 15; decide) (by rw [e2]; show 3 ≤ 15; decide) (by rw [e2]; show 0 < 3; decide) rfl hT.one).mono ?_
    rintro e w' ⟨fb, cap, G, cur, E, gv, fv, cw, iu, a0, a1, a3, a6, rfl, x1, x2, x3, x4, x5, x6, x7, x8, g1, g2, x9, x10, x11, x12, x13, x14, x15, x16, x17, x18, x19, K⟩
    rw [eN] at x13
    exact ⟨rfl, fb, cap, E, cur, gv, fv, cw, iu, a0, a1, a3, a6, G, ⟨x1, x2, x4, x5, x6, x7, x8, g1, g2, x9, x10, x11, x12, x13, x14, x15, x17, x18, by rw [x16]; exact hT.keptN K (hard1 hc (.inl rfl) (ch0_nb _ _)), x19, ⟨K, x3⟩⟩⟩
  · have hb : tv < bigT := v_lt htv
    have e5 : dPut ⟨ad 240, 1, bigT - 0 - tv, []⟩ false (dPut ⟨ha7, 1, 0, []⟩ false (dPut ⟨ad 240, 1, bigT - 0, []⟩ false (dPut ⟨ad 240, 1, bigT, []⟩ false (D3 [] probeL)))) = [⟨ad 1, 1, 0, []⟩, ⟨ad 2, 1, 0, probeL⟩, ⟨ad 240, 1, bigT - 0 - tv, []⟩, ⟨ha7, 1, 0, []⟩] := by kernel_rfl
    have e6 : dPut ⟨ha7, 1, 0 + tv, []⟩ false (dPut ⟨ad 240, 1, bigT - 0 - tv, []⟩ false (dPut ⟨ha7, 1, 0, []⟩ false (dPut ⟨ad 240, 1, bigT - 0, []⟩ false (dPut ⟨ad 240, 1, bigT, []⟩ false (D3 [] probeL))))) = [⟨ad 1, 1, 0, []⟩, ⟨ad 2, 1, 0, probeL⟩, ⟨ad 240, 1, bigT - 0 - tv, []⟩, ⟨ha7, 1, 0 + tv, []⟩] := by kernel_rfl
    refine (beginC_v c tv qb 19 5 probeL va tvv (D3 [] probeL) bigT ⟨ad 240, 1, bigT - 0, []⟩ ⟨ha7, 1, 0, []⟩ w hc hv (by kernel_rfl) hb big_lt htv hdv hq (List.prefix_refl _) (by rw [e1]; kernel_rfl) (by rw [eN]; kernel_rfl) (by decide) (Nat.le_of_lt hb) (by rw [e2]; kernel_rfl) (by show 3 ≤ 15; decide) (by show 0 < 3; decide) (by rw [e1]; show 3 ≤ 15; decide) (by rw [eN]; show 4 ≤ 15; decide) (by rw [e2]; show 3 ≤ 15; decide) (by rw [e2]; show 0 < 3; decide) h0 (by decide) (by decide) (by rw [e5]; kernel_rfl) (by decide) (by rw [e5]; show 4 ≤ 100; decide) hT.one).mono ?_
    rintro e w' ⟨fb, cap, G, cur, E, gv, fv, cw, iu, a0, a1, a3, a6, rfl, x1, x2, x3, x4, x5, x6, x7, x8, g1, g2, x9, x10, x11, x12, x13, x14, x15, x16, x17, x18, x19, K⟩
    rw [e6, Nat.zero_add, Nat.sub_zero] at x13
    exact ⟨rfl, fb, cap, E, cur, gv, fv, cw, iu, a0, a1, a3, a6, G, ⟨x1, x2, x4, x5, x6, x7, x8, g1, g2, x9, x10, x11, x12, x13, x14, x15, x17, x18, by rw [x16]; exact hT.keptN K (hard1 hc (.inl rfl) (ch0_nb _ _)), x19, ⟨K, x3⟩⟩⟩
end Go.Proofs.YgcsalGreat

/-
  contextWay and what follows it, kinds 0 to 5.
-/
import Derived.Test.YgcsalGreatCx47
import Derived.Test.YgcsalGreatCx40
import Derived.Test.YgcsalGreatCx42
import Derived.Test.YgcsalGreatCx43
set_option linter.unusedSimpArgs false
set_option linter.unusedVariables false
namespace Go.Own
open Go.Proofs Go.Proofs.YgcsalGreat
theorem n10 : (1 : Nat) ≠ 0 := by decide
theorem n1l : (1 : Nat) < 18446744073709551616 := by decide
theorem z_w : (0 : Nat) < 256 ^ 32 := by decide
theorem z_h : (0 : Nat) < 256 ^ 100 := by decide
theorem small_w {v : Nat} (h : v < 256) : v < 256 ^ 32 := Nat.lt_trans h (by decide)
theorem big_w (v : Nat) : bigT - v < 256 ^ 32 := Nat.lt_of_le_of_lt (Nat.sub_le _ _) (by decide)
theorem w_h {v : Nat} (h : v < 256 ^ 32) : v < 256 ^ 100 := Nat.lt_trans h (by decide)
end Go.Own
namespace Go.Proofs.YgcsalGreat
open Go.RowKit Go.Own
theorem fin3 {x1 x2 xs : Nat} {c1 c2 : List Nat} (h1 : x1 < 256 ^ 32) (h2 : x2 < 256 ^ 32) (h3 : xs < 256 ^ 32) : FinD (B3 x1 x2 xs c1 c2) (B3 x1 x2 xs c1 c2) ⟨ad 240, 1, xs, []⟩ := by
  refine ⟨by kernel_rfl, n10, w_h h3, by show 3 ≤ 400; decide, by kernel_rfl, by kernel_rfl, by show 3 ≤ 20; decide, ?_⟩
  intro d hd
  simp only [B3, List.mem_cons, List.not_mem_nil, or_false] at hd
  rcases hd with rfl | rfl | rfl
  · exact ⟨rfl, n10, n1l, h1⟩
  · exact ⟨rfl, n10, n1l, h2⟩
  · exact ⟨rfl, n10, n1l, h3⟩
theorem fin4 {x1 x2 xs : Nat} {c1 c2 c3 : List Nat} (h1 : x1 < 256 ^ 32) (h2 : x2 < 256 ^ 32) (h3 : xs < 256 ^ 32) : FinD (B4 x1 x2 xs c1 c2 c3) (B4 x1 x2 xs c1 c2 c3) ⟨ad 240, 1, xs, []⟩ := by
  refine ⟨by kernel_rfl, n10, w_h h3, by show 4 ≤ 400; decide, by kernel_rfl, by kernel_rfl, by show 4 ≤ 20; decide, ?_⟩
  intro d hd
  simp only [B4, List.mem_cons, List.not_mem_nil, or_false] at hd
  rcases hd with rfl | rfl | rfl | rfl
  · exact ⟨rfl, n10, n1l, h1⟩
  · exact ⟨rfl, n10, n1l, h2⟩
  · exact ⟨rfl, n10, n1l, z_w⟩
  · exact ⟨rfl, n10, n1l, h3⟩
theorem cway_0 (tv v : Nat) (w : World) (htv : tv < 256) (hv : v ≤ tv) : Calls Salg.prog 26 #[n8 0, n8 tv, n8 v] w fun e w' => ∃ (cs : Value) (tx row : List Value), e = .returned (.agg row.toArray) ∧ RowOK row cs tx 0 ∧ StageC 0 row false 0 (ad 2) (ad 240) tx cs w' ∧ Kept [] w w' := by
  have hv2 : v < 256 := Nat.lt_of_le_of_lt hv htv
  refine ((way_0 tv v w) : Calls Salg.prog 26 #[n8 0, n8 tv, n8 v] w _).mono ?_
  rintro e w' ⟨cs, rfl, hC, K⟩
  refine ⟨cs, txG 2 false tv nilS, rwL cs 2 false tv nilS (ad 2) (ad 240) tv 0 false, rfl, rowOK rfl rfl hC.one rfl, stageC_2 hC ?_, K⟩
  intro c va tvv w5 _ hc hv0 hT
  rw [txG_V]
  refine (beg3_2 c tv [] probeL va tvv w5 hc hv0 hT htv).mono ?_
  rintro e w6 ⟨rfl, fb, cap, E, cur, gv, fv, cw, iu, a0, a1, a3, a6, B⟩
  refine ⟨rfl, 0, by decide, B.bas.k, (crun_0 B htv).imp ?_⟩
  rintro w7 ⟨hE, K7⟩
  exact ⟨done_low hE.toG (fin3 (by decide) (small_w htv) (big_w tv)) (by decide) rfl rfl (ad_small (by decide)) (ad_small (by decide)) htv, K7⟩
theorem cway_1 (tv v : Nat) (w : World) (htv : tv < 256) (hv : v ≤ tv) : Calls Salg.prog 26 #[n8 1, n8 tv, n8 v] w fun e w' => ∃ (cs : Value) (tx row : List Value), e = .returned (.agg row.toArray) ∧ RowOK row cs tx 1 ∧ StageC 1 row false 1 (ad 2) (ad 1) tx cs w' ∧ Kept [] w w' := by
  have hv2 : v < 256 := Nat.lt_of_le_of_lt hv htv
  refine ((way_1 tv v w hv2) : Calls Salg.prog 26 #[n8 1, n8 tv, n8 v] w _).mono ?_
  rintro e w' ⟨cs, rfl, hC, K⟩
  refine ⟨cs, txG 1 false tv nilS, rwL cs 1 false tv nilS (ad 2) (ad 1) v 1 false, rfl, rowOK rfl rfl hC.one rfl, stageC_2 hC ?_, K⟩
  intro c va tvv w5 _ hc hv0 hT
  rw [txG_V]
  refine (beg3_1 c tv (fwdC v 2) probeL va tvv w5 hc hv0 hT htv).mono ?_
  rintro e w6 ⟨rfl, fb, cap, E, cur, gv, fv, cw, iu, a0, a1, a3, a6, B⟩
  by_cases h0 : v = 0
  · subst h0
    refine ⟨rfl, _, ?_, (crun_1z B ⟨ad 1, 1, tv, fwdC 0 2⟩ ⟨ad 2, 1, 0, probeL⟩ (by kernel_rfl) (by kernel_rfl) rfl (w_h (small_w htv)) (by show 0 < 3; decide) (by show 3 ≤ 20; decide)).imp fun w7 h7 => h7.imp ?_⟩
    · decide
    rintro w8 ⟨hE, K7⟩
    exact ⟨done_low hE.toG (fin3 (small_w htv) (by decide) (big_w tv)) (by decide) rfl rfl (ad_small (by decide)) (ad_small (by decide)) (by decide), K7⟩
  · have e : dPut ⟨ad 2, 1, 0 + v, probeL⟩ false (dPut ⟨ad 1, 1, tv - v, fwdC v 2⟩ false (B3 tv 0 (bigT - tv) (fwdC v 2) probeL)) = B3 (tv - v) (0 + v) (bigT - tv) (fwdC v 2) probeL := by kernel_rfl
    have e1 : dPut ⟨ad 1, 1, tv - v, fwdC v 2⟩ false (B3 tv 0 (bigT - tv) (fwdC v 2) probeL) = B3 (tv - v) 0 (bigT - tv) (fwdC v 2) probeL := by kernel_rfl
    refine ⟨rfl, _, ?_, (crun_1v v B ⟨ad 1, 1, tv, fwdC v 2⟩ ⟨ad 2, 1, 0, probeL⟩ (by kernel_rfl) (by kernel_rfl) rfl (w_h (small_w htv)) (by show 0 < 3; decide) (by show 3 ≤ 20; decide) ⟨ad 2, 1, 0, probeL⟩ h0 hv2 hv n10 n10 n10 (by rw [e1]; kernel_rfl) z_h (by rw [e1]; show 3 ≤ 100; decide)).imp fun w7 h7 => h7.imp ?_⟩
    · decide
    rintro w8 ⟨hE, K7⟩
    rw [e, Nat.zero_add] at hE
    exact ⟨done_low hE.toG (fin3 (small_w (Nat.lt_of_le_of_lt (Nat.sub_le _ _) htv)) (small_w hv2) (big_w tv)) (by decide) rfl rfl (ad_small (by decide)) (ad_small (by decide)) hv2, K7⟩
theorem cway_2 (tv v : Nat) (w : World) (htv : tv < 256) (hv : v ≤ tv) : Calls Salg.prog 26 #[n8 2, n8 tv, n8 v] w fun e w' => ∃ (cs : Value) (tx row : List Value), e = .returned (.agg row.toArray) ∧ RowOK row cs tx 1 ∧ StageC 2 row false 1 (ad 1) (ad 240) tx cs w' ∧ Kept [] w w' := by
  have hv2 : v < 256 := Nat.lt_of_le_of_lt hv htv
  refine ((way_2 tv v w) : Calls Salg.prog 26 #[n8 2, n8 tv, n8 v] w _).mono ?_
  rintro e w' ⟨cs, rfl, hC, K⟩
  refine ⟨cs, txG 1 false tv nilS, rwL cs 1 false tv nilS (ad 1) (ad 240) tv 1 false, rfl, rowOK rfl rfl hC.one rfl, stageC_2 hC ?_, K⟩
  intro c va tvv w5 _ hc hv0 hT
  rw [txG_V]
  refine (beg3_1 c tv (fwdO 2 244) probeL va tvv w5 hc hv0 hT htv).mono ?_
  rintro e w6 ⟨rfl, fb, cap, E, cur, gv, fv, cw, iu, a0, a1, a3, a6, B⟩
  refine ⟨rfl, _, ?_, (crun_2 B ⟨ad 1, 1, tv, fwdO 2 244⟩ ⟨ad 2, 1, 0, probeL⟩ (by kernel_rfl) (by kernel_rfl) rfl (w_h (small_w htv)) (by show 0 < 3; decide) (by show 3 ≤ 20; decide) htv).imp fun w7 h7 => h7.imp ?_⟩
  · decide
  rintro w8 ⟨hE, K7⟩
  exact ⟨done_low hE.toG (fin3 (small_w htv) (by decide) (big_w tv)) (by decide) rfl rfl (ad_small (by decide)) (ad_small (by decide)) htv, K7⟩
theorem cway_3 (tv v : Nat) (w : World) (htv : tv < 256) (hv : v ≤ tv) : Calls Salg.prog 26 #[n8 3, n8 tv, n8 v] w fun e w' => ∃ (cs : Value) (tx row : List Value), e = .returned (.agg row.toArray) ∧ RowOK row cs tx 1 ∧ StageC 3 row true 1 (ad 2) (ad 1) tx cs w' ∧ Kept [] w w' := by
  have hv2 : v < 256 := Nat.lt_of_le_of_lt hv htv
  refine ((way_3 tv v w) : Calls Salg.prog 26 #[n8 3, n8 tv, n8 v] w _).mono ?_
  rintro e w' ⟨cs, rfl, hC, K⟩
  refine ⟨cs, txG 1 false tv nilS, rwL cs 1 false tv nilS (ad 2) (ad 1) 0 1 true, rfl, rowOK rfl rfl hC.one rfl, stageC_2 hC ?_, K⟩
  intro c va tvv w5 _ hc hv0 hT
  rw [txG_V]
  refine (beg3_1 c tv (fwdO 2 250) probeL va tvv w5 hc hv0 hT htv).mono ?_
  rintro e w6 ⟨rfl, fb, cap, E, cur, gv, fv, cw, iu, a0, a1, a3, a6, B⟩
  refine ⟨rfl, _, ?_, (crun_3 B ⟨ad 1, 1, tv, fwdO 2 250⟩ ⟨ad 2, 1, 0, probeL⟩ (by kernel_rfl) (by kernel_rfl) rfl (w_h (small_w htv)) (by show 0 < 3; decide) (by show 3 ≤ 20; decide)).imp fun w7 h7 => h7.imp ?_⟩
  · decide
  rintro w8 ⟨hE, K7⟩
  exact ⟨done_low hE.toG (fin3 (small_w htv) (by decide) (big_w tv)) (by decide) rfl rfl (ad_small (by decide)) (ad_small (by decide)) (by decide), K7⟩
theorem cway_4 (tv v : Nat) (w : World) (htv : tv < 256) (hv : v ≤ tv) : Calls Salg.prog 26 #[n8 4, n8 tv, n8 v] w fun e w' => ∃ (cs : Value) (tx row : List Value), e = .returned (.agg row.toArray) ∧ RowOK row cs tx 2 ∧ StageC 4 row true 2 (ad 2) (ad 3) tx cs w' ∧ Kept [] w w' := by
  have hv2 : v < 256 := Nat.lt_of_le_of_lt hv htv
  refine ((way_4 tv v w) : Calls Salg.prog 26 #[n8 4, n8 tv, n8 v] w _).mono ?_
  rintro e w' ⟨cs, rfl, hC, K⟩
  refine ⟨cs, txG 1 false tv nilS, rwL cs 1 false tv nilS (ad 2) (ad 3) 0 2 true, rfl, rowOK rfl rfl hC.one rfl, stageC_3 hC ?_, K⟩
  intro c va tvv w5 _ hc hv0 hT
  rw [txG_V]
  refine (beg4_1 c tv (fwdO 3 250) probeL (fwdC 0 2) va tvv w5 hc hv0 hT htv).mono ?_
  rintro e w6 ⟨rfl, fb, cap, E, cur, gv, fv, cw, iu, a0, a1, a3, a6, B⟩
  refine ⟨rfl, _, ?_, (crun_4 B ⟨ad 1, 1, tv, fwdO 3 250⟩ ⟨ad 3, 1, 0, fwdC 0 2⟩ (by kernel_rfl) (by kernel_rfl) rfl (w_h (small_w htv)) (by show 0 < 4; decide) (by show 4 ≤ 20; decide) ⟨ad 2, 1, 0, probeL⟩ (by kernel_rfl) (by kernel_rfl) rfl (by decide)).imp fun w7 h7 => h7.imp ?_⟩
  · decide
  rintro w8 ⟨hE, K7⟩
  exact ⟨done_low hE.toG (fin4 (small_w htv) (by decide) (big_w tv)) (by decide) rfl rfl (ad_small (by decide)) (ad_small (by decide)) (by decide), K7⟩
theorem cway_5 (tv v : Nat) (w : World) (htv : tv < 256) (hv : v ≤ tv) : Calls Salg.prog 26 #[n8 5, n8 tv, n8 v] w fun e w' => ∃ (cs : Value) (tx row : List Value), e = .returned (.agg row.toArray) ∧ RowOK row cs tx 2 ∧ StageC 5 row true 2 (ad 3) (ad 1) tx cs w' ∧ Kept [] w w' := by
  have hv2 : v < 256 := Nat.lt_of_le_of_lt hv htv
  refine ((way_5 tv v w) : Calls Salg.prog 26 #[n8 5, n8 tv, n8 v] w _).mono ?_
  rintro e w' ⟨cs, rfl, hC, K⟩
  refine ⟨cs, txG 1 false tv nilS, rwL cs 1 false tv nilS (ad 3) (ad 1) 0 2 true, rfl, rowOK rfl rfl hC.one rfl, stageC_3 hC ?_, K⟩
  intro c va tvv w5 _ hc hv0 hT
  rw [txG_V]
  refine (beg4_1 c tv (fwdO 3 250) probeL (fwdO 2 244) va tvv w5 hc hv0 hT htv).mono ?_
  rintro e w6 ⟨rfl, fb, cap, E, cur, gv, fv, cw, iu, a0, a1, a3, a6, B⟩
  refine ⟨rfl, _, ?_, (crun_5 B ⟨ad 1, 1, tv, fwdO 3 250⟩ ⟨ad 3, 1, 0, fwdO 2 244⟩ (by kernel_rfl) (by kernel_rfl) rfl (w_h (small_w htv)) (by show 0 < 4; decide) (by show 4 ≤ 20; decide) ⟨ad 2, 1, 0, probeL⟩ (by kernel_rfl) (by kernel_rfl) rfl (by decide)).imp fun w7 h7 => h7.imp ?_⟩
  · decide
  rintro w8 ⟨hE, K7⟩
  exact ⟨done_low hE.toG (fin4 (small_w htv) (by decide) (big_w tv)) (by decide) rfl rfl (ad_small (by decide)) (ad_small (by decide)) (by decide), K7⟩
end Go.Proofs.YgcsalGreat

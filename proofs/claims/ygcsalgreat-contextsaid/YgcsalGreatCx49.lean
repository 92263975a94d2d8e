/-
  contextWay and what follows it, kinds 6 and 7.
-/
import Derived.Test.YgcsalGreatCx48
set_option linter.unusedSimpArgs false
set_option linter.unusedVariables false
namespace Go.Proofs.YgcsalGreat
open Go.RowKit Go.Own
/-- The accounts at the end of a creation. -/
def E4 (n1 x1 xs : Nat) (c1 : List Nat) (ha : List Nat) (xh : Nat) (ch : List Nat) : List AD := [⟨ad 1, n1, x1, c1⟩, ⟨ad 2, 1, 0, probeL⟩, ⟨ad 240, 1, xs, []⟩, ⟨ha, 1, xh, ch⟩]
theorem finE {n1 x1 xs xh : Nat} {c1 ha ch : List Nat} (hha : ha = ha6 ∨ ha = ha7) (hn : n1 = 1 ∨ n1 = 2) (h1 : x1 < 256 ^ 32) (h3 : xs < 256 ^ 32) (h4 : xh < 256 ^ 32) : FinD (E4 n1 x1 xs c1 ha xh ch) (E4 n1 x1 xs c1 ha xh ch) ⟨ad 240, 1, xs, []⟩ := by
  have hl : ha.length = 20 := by rcases hha with e | e <;> (subst e; rfl)
  have hn0 : n1 ≠ 0 ∧ n1 < 18446744073709551616 := by omega
  refine ⟨by kernel_rfl, n10, w_h h3, by show 4 ≤ 400; decide, ?_, ?_, by show 4 ≤ 20; decide, ?_⟩
  · rcases hha with e | e <;> (subst e; kernel_rfl)
  · rcases hha with e | e <;> (subst e; kernel_rfl)
  intro d hd
  simp only [E4, List.mem_cons, List.not_mem_nil, or_false] at hd
  rcases hd with rfl | rfl | rfl | rfl
  · exact ⟨rfl, hn0.1, hn0.2, h1⟩
  · exact ⟨rfl, n10, n1l, z_w⟩
  · exact ⟨rfl, n10, n1l, h3⟩
  · exact ⟨hl, n10, n1l, h4⟩
theorem neE {n1 x1 xs xh : Nat} {c1 ha ch : List Nat} (hha : ha = ha6 ∨ ha = ha7) : ∀ i x, i < 3 → (E4 n1 x1 xs c1 ha xh ch)[i]? = some x → x.adr ≠ ha := by
  intro i x hi hx
  have h3 : i = 0 ∨ i = 1 ∨ i = 2 := by omega
  rcases h3 with rfl | rfl | rfl
  · cases hx
    show ad 1 ≠ ha
    rcases hha with e | e <;> (subst e; decide)
  · cases hx
    show ad 2 ≠ ha
    rcases hha with e | e <;> (subst e; decide)
  · cases hx
    show ad 240 ≠ ha
    rcases hha with e | e <;> (subst e; decide)
theorem cway_6 (tv v : Nat) (w : World) (htv : tv < 256) (hv : v ≤ tv) : Calls Salg.prog 26 #[n8 6, n8 tv, n8 v] w fun e w' => ∃ (cs : Value) (tx row : List Value), e = .returned (.agg row.toArray) ∧ RowOK row cs tx 1 ∧ StageC 6 row false 1 ha6 (ad 1) tx cs w' ∧ Kept [] w w' := by
  have hv2 : v < 256 := Nat.lt_of_le_of_lt hv htv
  refine ((way_6 tv v w hv2) : Calls Salg.prog 26 #[n8 6, n8 tv, n8 v] w _).mono ?_
  rintro e w' ⟨cs, rfl, hC, K⟩
  refine ⟨cs, txG 1 false tv nilS, rwL cs 1 false tv nilS ha6 (ad 1) v 1 false, rfl, rowOK rfl rfl hC.one rfl, stageC_2 hC ?_, K⟩
  intro c va tvv w5 _ hc hv0 hT
  rw [txG_V]
  refine (beg3_1 c tv (creL v) probeL va tvv w5 hc hv0 hT htv).mono ?_
  rintro e w6 ⟨rfl, fb, cap, E, cur, gv, fv, cw, iu, a0, a1, a3, a6, B⟩
  have eA : dPut ⟨ad 1, 1 + 1, tv, creL v⟩ false (B3 tv 0 (bigT - tv) (creL v) probeL) = [⟨ad 1, 1 + 1, tv, creL v⟩, ⟨ad 2, 1, 0, probeL⟩, ⟨ad 240, 1, bigT - tv, []⟩] := by kernel_rfl
  have eN : dPut ⟨ha6, 1, 0, []⟩ false (dPut ⟨ad 1, 1 + 1, tv, creL v⟩ false (B3 tv 0 (bigT - tv) (creL v) probeL)) = [⟨ad 1, 1 + 1, tv, creL v⟩, ⟨ad 2, 1, 0, probeL⟩, ⟨ad 240, 1, bigT - tv, []⟩, ⟨ha6, 1, 0, []⟩] := by kernel_rfl
  have d0 : AD := ⟨ad 1, 1 + 1, tv, creL v⟩
  by_cases h0 : v = 0
  · have eE : dPut ⟨ha6, 1, 0, probeM ha6 (ad 1) v⟩ false (dPut ⟨ha6, 1, 0, []⟩ false (dPut ⟨ad 1, 1 + 1, tv, creL v⟩ false (B3 tv 0 (bigT - tv) (creL v) probeL))) = E4 2 tv (bigT - tv) (creL v) ha6 0 (probeM ha6 (ad 1) v) := by kernel_rfl
    refine ⟨rfl, _, ?_, (crun_6z v ⟨ad 1, 1, tv, creL v⟩ ⟨ad 1, 1 + 1, tv, creL v⟩ ⟨ha6, 1, 0, []⟩ ⟨ha6, 1, 0, []⟩ B hv2 (by kernel_rfl) rfl (w_h (small_w htv)) hv (by rw [eA]; kernel_rfl) (by rw [eN]; kernel_rfl) (w_h (small_w htv)) hv (by show 0 < 3; decide) (by show 3 ≤ 15; decide) (by rw [eA]; show 3 ≤ 15; decide) (by rw [eA]; show 0 < 3; decide) (by rw [eN]; show 4 ≤ 15; decide) h0 (by rw [eN]; kernel_rfl) (by decide) (by rw [eN]; show 4 ≤ 400; decide)).imp fun w7 h7 => h7.imp ?_⟩
    · decide
    rintro w8 ⟨hE, K7⟩
    rw [eE] at hE
    exact ⟨done_high 3 hE (.inl rfl) (finE (.inl rfl) (.inr rfl) (small_w htv) (big_w tv) (by decide)) (by decide) rfl rfl small_ha6 (ad_small (by decide)) hv2 rfl rfl h0.symm rfl (neE (.inl rfl)), K7⟩
  · have eS : dPut ⟨ad 1, 1 + 1, tv - v, creL v⟩ false (dPut ⟨ha6, 1, 0, []⟩ false (dPut ⟨ad 1, 1 + 1, tv, creL v⟩ false (B3 tv 0 (bigT - tv) (creL v) probeL))) = [⟨ad 1, 1 + 1, tv - v, creL v⟩, ⟨ad 2, 1, 0, probeL⟩, ⟨ad 240, 1, bigT - tv, []⟩, ⟨ha6, 1, 0, []⟩] := by kernel_rfl
    have eR : dPut ⟨ha6, 1, 0 + v, []⟩ false (dPut ⟨ad 1, 1 + 1, tv - v, creL v⟩ false (dPut ⟨ha6, 1, 0, []⟩ false (dPut ⟨ad 1, 1 + 1, tv, creL v⟩ false (B3 tv 0 (bigT - tv) (creL v) probeL)))) = [⟨ad 1, 1 + 1, tv - v, creL v⟩, ⟨ad 2, 1, 0, probeL⟩, ⟨ad 240, 1, bigT - tv, []⟩, ⟨ha6, 1, 0 + v, []⟩] := by kernel_rfl
    have eE : dPut ⟨ha6, 1, 0 + v, probeM ha6 (ad 1) v⟩ false (dPut ⟨ha6, 1, 0 + v, []⟩ false (dPut ⟨ad 1, 1 + 1, tv - v, creL v⟩ false (dPut ⟨ha6, 1, 0, []⟩ false (dPut ⟨ad 1, 1 + 1, tv, creL v⟩ false (B3 tv 0 (bigT - tv) (creL v) probeL))))) = E4 2 (tv - v) (bigT - tv) (creL v) ha6 (0 + v) (probeM ha6 (ad 1) v) := by kernel_rfl
    refine ⟨rfl, _, ?_, (crun_6v v ⟨ad 1, 1, tv, creL v⟩ ⟨ad 1, 1 + 1, tv, creL v⟩ ⟨ha6, 1, 0, []⟩ ⟨ha6, 1, 0 + v, []⟩ B hv2 (by kernel_rfl) rfl (w_h (small_w htv)) hv (by rw [eA]; kernel_rfl) (by rw [eN]; kernel_rfl) (w_h (small_w htv)) hv (by show 0 < 3; decide) (by show 3 ≤ 15; decide) (by rw [eA]; show 3 ≤ 15; decide) (by rw [eA]; show 0 < 3; decide) (by rw [eN]; show 4 ≤ 15; decide) h0 (by show 1 + 1 ≠ 0; decide) (by decide) (by rw [eS]; kernel_rfl) (by decide) (by rw [eS]; show 4 ≤ 100; decide) (by rw [eR]; kernel_rfl) n10 (by rw [eR]; show 4 ≤ 400; decide)).imp fun w7 h7 => h7.imp ?_⟩
    · decide
    rintro w8 ⟨hE, K7⟩
    rw [eE] at hE
    exact ⟨done_high 3 hE (.inl rfl) (finE (.inl rfl) (.inr rfl) (small_w (Nat.lt_of_le_of_lt (Nat.sub_le _ _) htv)) (big_w tv) (by rw [Nat.zero_add]; exact small_w hv2)) (by decide) rfl rfl small_ha6 (ad_small (by decide)) hv2 rfl rfl (Nat.zero_add v) rfl (neE (.inl rfl)), K7⟩
theorem cway_7 (tv v : Nat) (w : World) (htv : tv < 256) (hv : v ≤ tv) : Calls Salg.prog 26 #[n8 7, n8 tv, n8 v] w fun e w' => ∃ (cs : Value) (tx row : List Value), e = .returned (.agg row.toArray) ∧ RowOK row cs tx 0 ∧ StageC 7 row false 0 ha7 (ad 240) tx cs w' ∧ Kept [] w w' := by
  have hv2 : v < 256 := Nat.lt_of_le_of_lt hv htv
  refine ((way_7 tv v w) : Calls Salg.prog 26 #[n8 7, n8 tv, n8 v] w _).mono ?_
  rintro e w' ⟨cs, qb, rfl, hC, hq, K⟩
  refine ⟨cs, txG 1 true tv (.slice (some ⟨qb, 0, none⟩) 19 19), rwL cs 1 true tv (.slice (some ⟨qb, 0, none⟩) 19 19) ha7 (ad 240) tv 0 false, rfl, rowOK rfl rfl hC.one rfl, stageC_2 hC ?_, K⟩
  intro c va tvv w5 K5 hc hv0 hT
  rw [txG_C]
  refine (begC_7 c tv qb va tvv w5 hc hv0 hT htv (hq.kept K5)).mono ?_
  rintro e w6 ⟨rfl, fb, cap, E, cur, gv, fv, cw, iu, a0, a1, a3, a6, G, B⟩
  have eE : dPut ⟨ha7, 1, tv, probeM ha7 (ad 240) tv⟩ false [⟨ad 1, 1, 0, []⟩, ⟨ad 2, 1, 0, probeL⟩, ⟨ad 240, 1, (bigT - tv), []⟩, ⟨ha7, 1, tv, []⟩] = E4 1 0 (bigT - tv) [] ha7 tv (probeM ha7 (ad 240) tv) := by kernel_rfl
  refine ⟨rfl, 0, by decide, B.bas.k, (crun_7 B htv ⟨ha7, 1, tv, []⟩ (by kernel_rfl) (by show 1 ≠ 0; decide) (by show 4 ≤ 400; decide)).imp ?_⟩
  rintro w7 ⟨hE, K7⟩
  rw [eE] at hE
  exact ⟨done_high 3 hE (.inr rfl) (finE (.inr rfl) (.inl rfl) (by decide) (big_w tv) (small_w htv)) (by decide) rfl rfl small_ha7 (ad_small (by decide)) htv rfl rfl rfl rfl (neE (.inr rfl)), K7⟩
end Go.Proofs.YgcsalGreat

/-
  The walks of yp.Sstore (a slot that was empty at the start) and (*yp.State).orig (nothing at the start).
-/
import Derived.Test.YgcsalGreatMv30
set_option linter.unusedSimpArgs false
set_option linter.unusedVariables false
namespace Go.Proofs.YgcsalGreat
open Go.RowKit Go.Own
theorem cmp_ne (v u : Value) (m n : Nat) (h : m ≠ n) (w : World) (hv : NumV w v m) (hu : NumV w u n) : Calls Salg.prog 72 #[v, u] w fun e w' => ∃ r : Int, e = .returned (.int .i8 r) ∧ r ≠ 0 ∧ Kept [] w w' := by
  refine (cmp_num v u m n w hv hu).mono ?_
  rintro e w' ⟨rfl, K⟩
  refine ⟨_, rfl, ?_, K⟩
  unfold cmpI
  split
  · decide
  · rw [if_pos (by omega)]; decide
theorem isZero_lit (v : Value) (m : Nat) (b : Bool) (hb : decide (m = 0) = b) (w : World) (hv : NumV w v m) : Calls Salg.prog 170 #[v] w fun e w' => e = .returned (.bool b) ∧ Kept [] w w' := by
  rw [← hb]
  exact isZero_any v m w hv

set_option maxHeartbeats 4000000 in
set_option maxRecDepth 100000 in
theorem sstore_same_cold (ov vv nn : Value) (V : Nat) (w : World) (ho : NumV w ov 0) (hv : NumV w vv V) (hn : NumV w nn V) :
    Calls Salg.prog 255 #[ov, vv, nn, .bool true] w fun e w' => ∃ c p m, e = .returned (.tuple #[c, p, m]) ∧ NumV w' c (100 + 2100) ∧ NumV w' p 0 ∧ NumV w' m 0 ∧ Kept [] w w' := by
  have M := Mem.start w []
  have HO := hid ho
  have HV := hid hv
  have HN := hid hn
  clear ho hv hn
  go_enter Salg.func255, Salg.ntmps255
  go_wp2_with fail
  refine (cmp_lit nn vv V V 0 (cmpI_self _) _ HN.out HV.out).mono ?_
  rintro e w1 ⟨rfl, K⟩
  replace HO := hid (HO.out.kept K)
  replace HV := hid (HV.out.kept K)
  replace HN := hid (HN.out.kept K)
  replace M := M.call K
  clear K
  go_wp2_with fail
  rcases Nat.eq_zero_or_pos V with hV | hV
  · subst hV
    refine (cmp_lit vv ov 0 0 0 (by decide) _ HV.out HO.out).mono ?_
    rintro e w2 ⟨rfl, K⟩
    replace HO := hid (HO.out.kept K)
    replace HV := hid (HV.out.kept K)
    replace HN := hid (HN.out.kept K)
    replace M := M.call K
    clear K
    go_wp2_with fail
    refine (num_int _ 100 rfl (by decide) _).mono ?_
    rintro e w3 ⟨c1, rfl, xH1, K⟩
    have H1 := hid xH1
    replace HO := hid (HO.out.kept K)
    replace HV := hid (HV.out.kept K)
    replace HN := hid (HN.out.kept K)
    replace M := M.call K
    clear K xH1
    go_wp2_with fail
    refine (num_int _ 2100 rfl (by decide) _).mono ?_
    rintro e w4 ⟨c2, rfl, xH2, K⟩
    have H2 := hid xH2
    replace H1 := hid (H1.out.kept K)
    replace M := M.call K
    clear K xH2
    go_wp2_with fail
    refine (add_num c1 c2 100 2100 _ H1.out H2.out (by decide) (by decide)).mono ?_
    rintro e w5 ⟨c3, rfl, xH3, K⟩
    have H3 := hid xH3
    replace M := M.call K
    clear K xH3
    go_wp2_with fail
    go_ret3
    exact ⟨_, _, _, rfl, H3.out, nil_num _, nil_num _, M.kept⟩
  · skip
    refine (cmp_ne vv ov V 0 (by omega) _ HV.out HO.out).mono ?_
    rintro e w2 ⟨rw2, rfl, hrw2, K⟩
    have hbw2 : (rw2 == 0) = false := by simpa using hrw2
    have hdw2 : decide (rw2 = 0) = false := by simpa using hrw2
    replace HO := hid (HO.out.kept K)
    replace HV := hid (HV.out.kept K)
    replace HN := hid (HN.out.kept K)
    replace M := M.call K
    clear K
    go_wp2_with fail
    refine (num_int _ 100 rfl (by decide) _).mono ?_
    rintro e w3 ⟨c1, rfl, xH1, K⟩
    have H1 := hid xH1
    replace HO := hid (HO.out.kept K)
    replace HV := hid (HV.out.kept K)
    replace HN := hid (HN.out.kept K)
    replace M := M.call K
    clear K xH1
    go_wp2_with fail
    refine (num_int _ 2100 rfl (by decide) _).mono ?_
    rintro e w4 ⟨c2, rfl, xH2, K⟩
    have H2 := hid xH2
    replace H1 := hid (H1.out.kept K)
    replace M := M.call K
    clear K xH2
    go_wp2_with fail
    refine (add_num c1 c2 100 2100 _ H1.out H2.out (by decide) (by decide)).mono ?_
    rintro e w5 ⟨c3, rfl, xH3, K⟩
    have H3 := hid xH3
    replace M := M.call K
    clear K xH3
    go_wp2_with fail
    go_ret3
    exact ⟨_, _, _, rfl, H3.out, nil_num _, nil_num _, M.kept⟩

set_option maxHeartbeats 4000000 in
set_option maxRecDepth 100000 in
theorem sstore_first_cold (ov vv nn : Value) (N : Nat) (w : World) (ho : NumV w ov 0) (hv : NumV w vv 0) (hn : NumV w nn N) (hne : N ≠ 0) :
    Calls Salg.prog 255 #[ov, vv, nn, .bool true] w fun e w' => ∃ c p m, e = .returned (.tuple #[c, p, m]) ∧ NumV w' c (20000 + 2100) ∧ NumV w' p 0 ∧ NumV w' m 0 ∧ Kept [] w w' := by
  have M := Mem.start w []
  have HO := hid ho
  have HV := hid hv
  have HN := hid hn
  clear ho hv hn
  go_enter Salg.func255, Salg.ntmps255
  go_wp2_with fail
  refine (cmp_ne nn vv N 0 hne _ HN.out HV.out).mono ?_
  rintro e w1 ⟨rw1, rfl, hrw1, K⟩
  have hbw1 : (rw1 == 0) = false := by simpa using hrw1
  have hdw1 : decide (rw1 = 0) = false := by simpa using hrw1
  replace HO := hid (HO.out.kept K)
  replace HV := hid (HV.out.kept K)
  replace HN := hid (HN.out.kept K)
  replace M := M.call K
  clear K
  go_wp2_with fail
  refine (cmp_lit vv ov 0 0 0 (by decide) _ HV.out HO.out).mono ?_
  rintro e w2 ⟨rfl, K⟩
  replace HO := hid (HO.out.kept K)
  replace HV := hid (HV.out.kept K)
  replace HN := hid (HN.out.kept K)
  replace M := M.call K
  clear K
  go_wp2_with fail
  refine (isZero_lit ov 0 true (by decide) _ HO.out).mono ?_
  rintro e w3 ⟨rfl, K⟩
  replace HO := hid (HO.out.kept K)
  replace HV := hid (HV.out.kept K)
  replace HN := hid (HN.out.kept K)
  replace M := M.call K
  clear K
  go_wp2_with fail
  refine (num_int _ 20000 rfl (by decide) _).mono ?_
  rintro e w4 ⟨c1, rfl, xH1, K⟩
  have H1 := hid xH1
  replace HO := hid (HO.out.kept K)
  replace HV := hid (HV.out.kept K)
  replace HN := hid (HN.out.kept K)
  replace M := M.call K
  clear K xH1
  go_wp2_with fail
  refine (num_int _ 2100 rfl (by decide) _).mono ?_
  rintro e w5 ⟨c2, rfl, xH2, K⟩
  have H2 := hid xH2
  replace H1 := hid (H1.out.kept K)
  replace HO := hid (HO.out.kept K)
  replace HV := hid (HV.out.kept K)
  replace HN := hid (HN.out.kept K)
  replace M := M.call K
  clear K xH2
  go_wp2_with fail
  refine (add_num c1 c2 20000 2100 _ H1.out H2.out (by decide) (by decide)).mono ?_
  rintro e w6 ⟨c3, rfl, xH3, K⟩
  have H3 := hid xH3
  replace HO := hid (HO.out.kept K)
  replace HV := hid (HV.out.kept K)
  replace HN := hid (HN.out.kept K)
  replace M := M.call K
  clear K xH3
  go_wp2_with fail
  refine (isZero_lit ov 0 true (by decide) _ HO.out).mono ?_
  rintro e w7 ⟨rfl, K⟩
  replace H3 := hid (H3.out.kept K)
  replace M := M.call K
  clear K
  go_wp2_with fail
  go_ret3
  exact ⟨_, _, _, rfl, H3.out, nil_num _, nil_num _, M.kept⟩

set_option maxHeartbeats 4000000 in
set_option maxRecDepth 100000 in
theorem sstore_clear_cold (ov vv nn : Value) (V : Nat) (w : World) (ho : NumV w ov 0) (hv : NumV w vv V) (hn : NumV w nn 0) (hne : V ≠ 0) :
    Calls Salg.prog 255 #[ov, vv, nn, .bool true] w fun e w' => ∃ c p m, e = .returned (.tuple #[c, p, m]) ∧ NumV w' c (100 + 2100) ∧ NumV w' p 19900 ∧ NumV w' m 0 ∧ Kept [] w w' := by
  have M := Mem.start w []
  have HO := hid ho
  have HV := hid hv
  have HN := hid hn
  clear ho hv hn
  go_enter Salg.func255, Salg.ntmps255
  go_wp2_with fail
  refine (cmp_ne nn vv 0 V (Ne.symm hne) _ HN.out HV.out).mono ?_
  rintro e w1 ⟨rw1, rfl, hrw1, K⟩
  have hbw1 : (rw1 == 0) = false := by simpa using hrw1
  have hdw1 : decide (rw1 = 0) = false := by simpa using hrw1
  replace HO := hid (HO.out.kept K)
  replace HV := hid (HV.out.kept K)
  replace HN := hid (HN.out.kept K)
  replace M := M.call K
  clear K
  go_wp2_with fail
  refine (cmp_ne vv ov V 0 hne _ HV.out HO.out).mono ?_
  rintro e w2 ⟨rw2, rfl, hrw2, K⟩
  have hbw2 : (rw2 == 0) = false := by simpa using hrw2
  have hdw2 : decide (rw2 = 0) = false := by simpa using hrw2
  replace HO := hid (HO.out.kept K)
  replace HV := hid (HV.out.kept K)
  replace HN := hid (HN.out.kept K)
  replace M := M.call K
  clear K
  go_wp2_with fail
  refine (num_int _ 100 rfl (by decide) _).mono ?_
  rintro e w3 ⟨c1, rfl, xH1, K⟩
  have H1 := hid xH1
  replace HO := hid (HO.out.kept K)
  replace HV := hid (HV.out.kept K)
  replace HN := hid (HN.out.kept K)
  replace M := M.call K
  clear K xH1
  go_wp2_with fail
  refine (num_int _ 2100 rfl (by decide) _).mono ?_
  rintro e w4 ⟨c2, rfl, xH2, K⟩
  have H2 := hid xH2
  replace H1 := hid (H1.out.kept K)
  replace HO := hid (HO.out.kept K)
  replace HV := hid (HV.out.kept K)
  replace HN := hid (HN.out.kept K)
  replace M := M.call K
  clear K xH2
  go_wp2_with fail
  refine (add_num c1 c2 100 2100 _ H1.out H2.out (by decide) (by decide)).mono ?_
  rintro e w5 ⟨c3, rfl, xH3, K⟩
  have H3 := hid xH3
  replace HO := hid (HO.out.kept K)
  replace HV := hid (HV.out.kept K)
  replace HN := hid (HN.out.kept K)
  replace M := M.call K
  clear K xH3
  go_wp2_with fail
  refine (isZero_lit ov 0 true (by decide) _ HO.out).mono ?_
  rintro e w6 ⟨rfl, K⟩
  replace H3 := hid (H3.out.kept K)
  replace HO := hid (HO.out.kept K)
  replace HV := hid (HV.out.kept K)
  replace HN := hid (HN.out.kept K)
  replace M := M.call K
  clear K
  go_wp2_with fail
  refine (cmp_lit nn ov 0 0 0 (by decide) _ HN.out HO.out).mono ?_
  rintro e w7 ⟨rfl, K⟩
  replace H3 := hid (H3.out.kept K)
  replace HO := hid (HO.out.kept K)
  replace M := M.call K
  clear K
  go_wp2_with fail
  refine (num_int _ 19900 rfl (by decide) _).mono ?_
  rintro e w8 ⟨b1, rfl, xHB, K⟩
  have HB := hid xHB
  replace H3 := hid (H3.out.kept K)
  replace HO := hid (HO.out.kept K)
  replace M := M.call K
  clear K xHB
  go_wp2_with fail
  refine (isZero_lit ov 0 true (by decide) _ HO.out).mono ?_
  rintro e w9 ⟨rfl, K⟩
  replace H3 := hid (H3.out.kept K)
  replace HB := hid (HB.out.kept K)
  replace M := M.call K
  clear K
  go_wp2_with fail
  refine (add_num nilS b1 0 19900 _ (nil_num _) HB.out (by decide) (by decide)).mono ?_
  rintro e w10 ⟨p1, rfl, xHP, K⟩
  have HP := hid xHP
  replace H3 := hid (H3.out.kept K)
  replace M := M.call K
  clear K xHP
  go_wp2_with fail
  go_ret3
  exact ⟨_, _, _, rfl, H3.out, HP.out, nil_num _, M.kept⟩

set_option maxHeartbeats 4000000 in
set_option maxRecDepth 100000 in
theorem sstore_turn_cold (ov vv nn : Value) (V : Nat) (N : Nat) (w : World) (ho : NumV w ov 0) (hv : NumV w vv V) (hn : NumV w nn N) (hne : N ≠ V) (hv0 : V ≠ 0) (hn0 : N ≠ 0) :
    Calls Salg.prog 255 #[ov, vv, nn, .bool true] w fun e w' => ∃ c p m, e = .returned (.tuple #[c, p, m]) ∧ NumV w' c (100 + 2100) ∧ NumV w' p 0 ∧ NumV w' m 0 ∧ Kept [] w w' := by
  have M := Mem.start w []
  have HO := hid ho
  have HV := hid hv
  have HN := hid hn
  clear ho hv hn
  go_enter Salg.func255, Salg.ntmps255
  go_wp2_with fail
  refine (cmp_ne nn vv N V hne _ HN.out HV.out).mono ?_
  rintro e w1 ⟨rw1, rfl, hrw1, K⟩
  have hbw1 : (rw1 == 0) = false := by simpa using hrw1
  have hdw1 : decide (rw1 = 0) = false := by simpa using hrw1
  replace HO := hid (HO.out.kept K)
  replace HV := hid (HV.out.kept K)
  replace HN := hid (HN.out.kept K)
  replace M := M.call K
  clear K
  go_wp2_with fail
  refine (cmp_ne vv ov V 0 hv0 _ HV.out HO.out).mono ?_
  rintro e w2 ⟨rw2, rfl, hrw2, K⟩
  have hbw2 : (rw2 == 0) = false := by simpa using hrw2
  have hdw2 : decide (rw2 = 0) = false := by simpa using hrw2
  replace HO := hid (HO.out.kept K)
  replace HV := hid (HV.out.kept K)
  replace HN := hid (HN.out.kept K)
  replace M := M.call K
  clear K
  go_wp2_with fail
  refine (num_int _ 100 rfl (by decide) _).mono ?_
  rintro e w3 ⟨c1, rfl, xH1, K⟩
  have H1 := hid xH1
  replace HO := hid (HO.out.kept K)
  replace HV := hid (HV.out.kept K)
  replace HN := hid (HN.out.kept K)
  replace M := M.call K
  clear K xH1
  go_wp2_with fail
  refine (num_int _ 2100 rfl (by decide) _).mono ?_
  rintro e w4 ⟨c2, rfl, xH2, K⟩
  have H2 := hid xH2
  replace H1 := hid (H1.out.kept K)
  replace HO := hid (HO.out.kept K)
  replace HV := hid (HV.out.kept K)
  replace HN := hid (HN.out.kept K)
  replace M := M.call K
  clear K xH2
  go_wp2_with fail
  refine (add_num c1 c2 100 2100 _ H1.out H2.out (by decide) (by decide)).mono ?_
  rintro e w5 ⟨c3, rfl, xH3, K⟩
  have H3 := hid xH3
  replace HO := hid (HO.out.kept K)
  replace HV := hid (HV.out.kept K)
  replace HN := hid (HN.out.kept K)
  replace M := M.call K
  clear K xH3
  go_wp2_with fail
  refine (isZero_lit ov 0 true (by decide) _ HO.out).mono ?_
  rintro e w6 ⟨rfl, K⟩
  replace H3 := hid (H3.out.kept K)
  replace HO := hid (HO.out.kept K)
  replace HV := hid (HV.out.kept K)
  replace HN := hid (HN.out.kept K)
  replace M := M.call K
  clear K
  go_wp2_with fail
  refine (cmp_ne nn ov N 0 hn0 _ HN.out HO.out).mono ?_
  rintro e w7 ⟨rw7, rfl, hrw7, K⟩
  have hbw7 : (rw7 == 0) = false := by simpa using hrw7
  have hdw7 : decide (rw7 = 0) = false := by simpa using hrw7
  replace H3 := hid (H3.out.kept K)
  replace M := M.call K
  clear K
  go_wp2_with fail
  go_ret3
  exact ⟨_, _, _, rfl, H3.out, nil_num _, nil_num _, M.kept⟩

set_option maxHeartbeats 4000000 in
set_option maxRecDepth 100000 in
theorem sstore_same_warm (ov vv nn : Value) (V : Nat) (w : World) (ho : NumV w ov 0) (hv : NumV w vv V) (hn : NumV w nn V) :
    Calls Salg.prog 255 #[ov, vv, nn, .bool false] w fun e w' => ∃ c p m, e = .returned (.tuple #[c, p, m]) ∧ NumV w' c (100) ∧ NumV w' p 0 ∧ NumV w' m 0 ∧ Kept [] w w' := by
  have M := Mem.start w []
  have HO := hid ho
  have HV := hid hv
  have HN := hid hn
  clear ho hv hn
  go_enter Salg.func255, Salg.ntmps255
  go_wp2_with fail
  refine (cmp_lit nn vv V V 0 (cmpI_self _) _ HN.out HV.out).mono ?_
  rintro e w1 ⟨rfl, K⟩
  replace HO := hid (HO.out.kept K)
  replace HV := hid (HV.out.kept K)
  replace HN := hid (HN.out.kept K)
  replace M := M.call K
  clear K
  go_wp2_with fail
  rcases Nat.eq_zero_or_pos V with hV | hV
  · subst hV
    refine (cmp_lit vv ov 0 0 0 (by decide) _ HV.out HO.out).mono ?_
    rintro e w2 ⟨rfl, K⟩
    replace HO := hid (HO.out.kept K)
    replace HV := hid (HV.out.kept K)
    replace HN := hid (HN.out.kept K)
    replace M := M.call K
    clear K
    go_wp2_with fail
    refine (num_int _ 100 rfl (by decide) _).mono ?_
    rintro e w3 ⟨c1, rfl, xH1, K⟩
    have H1 := hid xH1
    replace HO := hid (HO.out.kept K)
    replace HV := hid (HV.out.kept K)
    replace HN := hid (HN.out.kept K)
    replace M := M.call K
    clear K xH1
    go_wp2_with fail
    go_ret3
    exact ⟨_, _, _, rfl, H1.out, nil_num _, nil_num _, M.kept⟩
  · skip
    refine (cmp_ne vv ov V 0 (by omega) _ HV.out HO.out).mono ?_
    rintro e w2 ⟨rw2, rfl, hrw2, K⟩
    have hbw2 : (rw2 == 0) = false := by simpa using hrw2
    have hdw2 : decide (rw2 = 0) = false := by simpa using hrw2
    replace HO := hid (HO.out.kept K)
    replace HV := hid (HV.out.kept K)
    replace HN := hid (HN.out.kept K)
    replace M := M.call K
    clear K
    go_wp2_with fail
    refine (num_int _ 100 rfl (by decide) _).mono ?_
    rintro e w3 ⟨c1, rfl, xH1, K⟩
    have H1 := hid xH1
    replace HO := hid (HO.out.kept K)
    replace HV := hid (HV.out.kept K)
    replace HN := hid (HN.out.kept K)
    replace M := M.call K
    clear K xH1
    go_wp2_with fail
    go_ret3
    exact ⟨_, _, _, rfl, H1.out, nil_num _, nil_num _, M.kept⟩

set_option maxHeartbeats 4000000 in
set_option maxRecDepth 100000 in
theorem sstore_first_warm (ov vv nn : Value) (N : Nat) (w : World) (ho : NumV w ov 0) (hv : NumV w vv 0) (hn : NumV w nn N) (hne : N ≠ 0) :
    Calls Salg.prog 255 #[ov, vv, nn, .bool false] w fun e w' => ∃ c p m, e = .returned (.tuple #[c, p, m]) ∧ NumV w' c (20000) ∧ NumV w' p 0 ∧ NumV w' m 0 ∧ Kept [] w w' := by
  have M := Mem.start w []
  have HO := hid ho
  have HV := hid hv
  have HN := hid hn
  clear ho hv hn
  go_enter Salg.func255, Salg.ntmps255
  go_wp2_with fail
  refine (cmp_ne nn vv N 0 hne _ HN.out HV.out).mono ?_
  rintro e w1 ⟨rw1, rfl, hrw1, K⟩
  have hbw1 : (rw1 == 0) = false := by simpa using hrw1
  have hdw1 : decide (rw1 = 0) = false := by simpa using hrw1
  replace HO := hid (HO.out.kept K)
  replace HV := hid (HV.out.kept K)
  replace HN := hid (HN.out.kept K)
  replace M := M.call K
  clear K
  go_wp2_with fail
  refine (cmp_lit vv ov 0 0 0 (by decide) _ HV.out HO.out).mono ?_
  rintro e w2 ⟨rfl, K⟩
  replace HO := hid (HO.out.kept K)
  replace HV := hid (HV.out.kept K)
  replace HN := hid (HN.out.kept K)
  replace M := M.call K
  clear K
  go_wp2_with fail
  refine (isZero_lit ov 0 true (by decide) _ HO.out).mono ?_
  rintro e w3 ⟨rfl, K⟩
  replace HO := hid (HO.out.kept K)
  replace HV := hid (HV.out.kept K)
  replace HN := hid (HN.out.kept K)
  replace M := M.call K
  clear K
  go_wp2_with fail
  refine (num_int _ 20000 rfl (by decide) _).mono ?_
  rintro e w4 ⟨c1, rfl, xH1, K⟩
  have H1 := hid xH1
  replace HO := hid (HO.out.kept K)
  replace HV := hid (HV.out.kept K)
  replace HN := hid (HN.out.kept K)
  replace M := M.call K
  clear K xH1
  go_wp2_with fail
  refine (isZero_lit ov 0 true (by decide) _ HO.out).mono ?_
  rintro e w7 ⟨rfl, K⟩
  replace H1 := hid (H1.out.kept K)
  replace M := M.call K
  clear K
  go_wp2_with fail
  go_ret3
  exact ⟨_, _, _, rfl, H1.out, nil_num _, nil_num _, M.kept⟩

set_option maxHeartbeats 4000000 in
set_option maxRecDepth 100000 in
theorem sstore_clear_warm (ov vv nn : Value) (V : Nat) (w : World) (ho : NumV w ov 0) (hv : NumV w vv V) (hn : NumV w nn 0) (hne : V ≠ 0) :
    Calls Salg.prog 255 #[ov, vv, nn, .bool false] w fun e w' => ∃ c p m, e = .returned (.tuple #[c, p, m]) ∧ NumV w' c (100) ∧ NumV w' p 19900 ∧ NumV w' m 0 ∧ Kept [] w w' := by
  have M := Mem.start w []
  have HO := hid ho
  have HV := hid hv
  have HN := hid hn
  clear ho hv hn
  go_enter Salg.func255, Salg.ntmps255
  go_wp2_with fail
  refine (cmp_ne nn vv 0 V (Ne.symm hne) _ HN.out HV.out).mono ?_
  rintro e w1 ⟨rw1, rfl, hrw1, K⟩
  have hbw1 : (rw1 == 0) = false := by simpa using hrw1
  have hdw1 : decide (rw1 = 0) = false := by simpa using hrw1
  replace HO := hid (HO.out.kept K)
  replace HV := hid (HV.out.kept K)
  replace HN := hid (HN.out.kept K)
  replace M := M.call K
  clear K
  go_wp2_with fail
  refine (cmp_ne vv ov V 0 hne _ HV.out HO.out).mono ?_
  rintro e w2 ⟨rw2, rfl, hrw2, K⟩
  have hbw2 : (rw2 == 0) = false := by simpa using hrw2
  have hdw2 : decide (rw2 = 0) = false := by simpa using hrw2
  replace HO := hid (HO.out.kept K)
  replace HV := hid (HV.out.kept K)
  replace HN := hid (HN.out.kept K)
  replace M := M.call K
  clear K
  go_wp2_with fail
  refine (num_int _ 100 rfl (by decide) _).mono ?_
  rintro e w3 ⟨c1, rfl, xH1, K⟩
  have H1 := hid xH1
  replace HO := hid (HO.out.kept K)
  replace HV := hid (HV.out.kept K)
  replace HN := hid (HN.out.kept K)
  replace M := M.call K
  clear K xH1
  go_wp2_with fail
  refine (isZero_lit ov 0 true (by decide) _ HO.out).mono ?_
  rintro e w6 ⟨rfl, K⟩
  replace H1 := hid (H1.out.kept K)
  replace HO := hid (HO.out.kept K)
  replace HV := hid (HV.out.kept K)
  replace HN := hid (HN.out.kept K)
  replace M := M.call K
  clear K
  go_wp2_with fail
  refine (cmp_lit nn ov 0 0 0 (by decide) _ HN.out HO.out).mono ?_
  rintro e w7 ⟨rfl, K⟩
  replace H1 := hid (H1.out.kept K)
  replace HO := hid (HO.out.kept K)
  replace M := M.call K
  clear K
  go_wp2_with fail
  refine (num_int _ 19900 rfl (by decide) _).mono ?_
  rintro e w8 ⟨b1, rfl, xHB, K⟩
  have HB := hid xHB
  replace H1 := hid (H1.out.kept K)
  replace HO := hid (HO.out.kept K)
  replace M := M.call K
  clear K xHB
  go_wp2_with fail
  refine (isZero_lit ov 0 true (by decide) _ HO.out).mono ?_
  rintro e w9 ⟨rfl, K⟩
  replace H1 := hid (H1.out.kept K)
  replace HB := hid (HB.out.kept K)
  replace M := M.call K
  clear K
  go_wp2_with fail
  refine (add_num nilS b1 0 19900 _ (nil_num _) HB.out (by decide) (by decide)).mono ?_
  rintro e w10 ⟨p1, rfl, xHP, K⟩
  have HP := hid xHP
  replace H1 := hid (H1.out.kept K)
  replace M := M.call K
  clear K xHP
  go_wp2_with fail
  go_ret3
  exact ⟨_, _, _, rfl, H1.out, HP.out, nil_num _, M.kept⟩

set_option maxHeartbeats 4000000 in
set_option maxRecDepth 100000 in
theorem sstore_turn_warm (ov vv nn : Value) (V : Nat) (N : Nat) (w : World) (ho : NumV w ov 0) (hv : NumV w vv V) (hn : NumV w nn N) (hne : N ≠ V) (hv0 : V ≠ 0) (hn0 : N ≠ 0) :
    Calls Salg.prog 255 #[ov, vv, nn, .bool false] w fun e w' => ∃ c p m, e = .returned (.tuple #[c, p, m]) ∧ NumV w' c (100) ∧ NumV w' p 0 ∧ NumV w' m 0 ∧ Kept [] w w' := by
  have M := Mem.start w []
  have HO := hid ho
  have HV := hid hv
  have HN := hid hn
  clear ho hv hn
  go_enter Salg.func255, Salg.ntmps255
  go_wp2_with fail
  refine (cmp_ne nn vv N V hne _ HN.out HV.out).mono ?_
  rintro e w1 ⟨rw1, rfl, hrw1, K⟩
  have hbw1 : (rw1 == 0) = false := by simpa using hrw1
  have hdw1 : decide (rw1 = 0) = false := by simpa using hrw1
  replace HO := hid (HO.out.kept K)
  replace HV := hid (HV.out.kept K)
  replace HN := hid (HN.out.kept K)
  replace M := M.call K
  clear K
  go_wp2_with fail
  refine (cmp_ne vv ov V 0 hv0 _ HV.out HO.out).mono ?_
  rintro e w2 ⟨rw2, rfl, hrw2, K⟩
  have hbw2 : (rw2 == 0) = false := by simpa using hrw2
  have hdw2 : decide (rw2 = 0) = false := by simpa using hrw2
  replace HO := hid (HO.out.kept K)
  replace HV := hid (HV.out.kept K)
  replace HN := hid (HN.out.kept K)
  replace M := M.call K
  clear K
  go_wp2_with fail
  refine (num_int _ 100 rfl (by decide) _).mono ?_
  rintro e w3 ⟨c1, rfl, xH1, K⟩
  have H1 := hid xH1
  replace HO := hid (HO.out.kept K)
  replace HV := hid (HV.out.kept K)
  replace HN := hid (HN.out.kept K)
  replace M := M.call K
  clear K xH1
  go_wp2_with fail
  refine (isZero_lit ov 0 true (by decide) _ HO.out).mono ?_
  rintro e w6 ⟨rfl, K⟩
  replace H1 := hid (H1.out.kept K)
  replace HO := hid (HO.out.kept K)
  replace HV := hid (HV.out.kept K)
  replace HN := hid (HN.out.kept K)
  replace M := M.call K
  clear K
  go_wp2_with fail
  refine (cmp_ne nn ov N 0 hn0 _ HN.out HO.out).mono ?_
  rintro e w7 ⟨rw7, rfl, hrw7, K⟩
  have hbw7 : (rw7 == 0) = false := by simpa using hrw7
  have hdw7 : decide (rw7 = 0) = false := by simpa using hrw7
  replace H1 := hid (H1.out.kept K)
  replace M := M.call K
  clear K
  go_wp2_with fail
  go_ret3
  exact ⟨_, _, _, rfl, H1.out, nil_num _, nil_num _, M.kept⟩

set_option maxHeartbeats 4000000 in
set_option maxRecDepth 100000 in
theorem orig_nil (c tc : Nat) (cs : Array Value) (a : List Nat) (kv : Value) (w : World) (hc : w.heap[c]? = some (.cells cs tc (0, 0))) (h8 : cs[8]? = some nilS) : Calls Salg.prog 256 #[.pointer (some ⟨c, 0, none⟩), A8 a, kv] w fun e w' => e = .returned nilS ∧ Kept [] w w' := by
  have M := Mem.start w []
  go_enter Salg.func256, Salg.ntmps256
  go_wp2_with (first
    | ((with_reducible apply L_box M); rfl; clear M; intro t4 w1 ht4 M; simp only [Act.put, List.setIfInBounds_toArray, List.set_cons_zero, List.set_cons_succ])
    | ((with_reducible apply W_loadCell); rfl; exact M.kept.row hc (by simp); exact h8; exact Salg.underlying114; rfl; simp only [Act.put, List.setIfInBounds_toArray, List.set_cons_zero, List.set_cons_succ]))
  go_loopw [14] (fun iv wx => iv = .int .i64 0 ∧ Mem w [] [(t4, .cells (a.map n8).toArray 45 (0, 0))] wx) (fun _ _ => 0)
  case atStart => exact ⟨rfl, M⟩
  case round =>
    clear M
    obtain ⟨rfl, M⟩ := hrel
    go_wp2_with fail
    go_ret
    exact ⟨rfl, M.kept⟩
end Go.Proofs.YgcsalGreat

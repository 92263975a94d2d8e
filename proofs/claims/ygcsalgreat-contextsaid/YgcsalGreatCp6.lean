/-
  yp.end, yp.maxNat, yp.CopyCost; (*yp.Frame).reach and (*yp.State).bareCost at the instructions that copy and at CALL.
-/
import Derived.Test.YgcsalGreatCp5
set_option linter.unusedSimpArgs false
set_option linter.unusedVariables false
namespace Go.Own
def endN (A N : Nat) : Nat := if N = 0 then 0 else A + N
theorem endN_le (A N : Nat) : endN A N ≤ A + N := by unfold endN; split <;> omega
end Go.Own
namespace Go.Proofs.YgcsalGreat
open Go.RowKit Go.Own
theorem end_any (a n : Value) (A N : Nat) (w : World) (ha : NumV w a A) (hn : NumV w n N) (hA : A < 256 ^ 200) (hN : N < 256 ^ 200) : Calls Salg.prog 188 #[a, n] w fun e w' => ∃ r, e = .returned r ∧ NumV w' r (endN A N) ∧ Kept [] w w' := by
  unfold endN
  by_cases h : N = 0
  · subst h
    exact end_zero a n w hn
  · rw [if_neg h]
    exact end_some a n A N w ha hn h hA hN

set_option maxHeartbeats 4000000 in
set_option maxRecDepth 100000 in
theorem maxNat_any (a b : Value) (A B : Nat) (w : World) (ha : NumV w a A) (hb : NumV w b B) : Calls Salg.prog 189 #[a, b] w fun e w' => ∃ r, e = .returned r ∧ NumV w' r (max A B) ∧ Kept [] w w' := by
  have M := Mem.start w []
  have HA := hid ha
  have HB := hid hb
  clear ha hb
  rcases Nat.lt_or_ge B A with h | h
  · have HE : Hid (max A B = A) := by show _ = _; omega
    rw [HE.out]
    go_enter Salg.func189, Salg.ntmps189
    go_wp2_with fail
    refine (cmp_lit a b A B 1 (cmpI_gt h) _ HA.out HB.out).mono ?_
    rintro e w1 ⟨rfl, K⟩
    replace HA := hid (HA.out.kept K)
    replace M := M.call K
    clear K
    go_wp2_with fail
    go_ret
    exact ⟨_, rfl, HA.out, M.kept⟩
  · have HE : Hid (max A B = B) := by show _ = _; omega
    rw [HE.out]
    go_enter Salg.func189, Salg.ntmps189
    go_wp2_with fail
    refine (cmp_le a b A B h _ HA.out HB.out).mono ?_
    rintro e w1 ⟨cz, rfl, hcz, K⟩
    replace HB := hid (HB.out.kept K)
    replace M := M.call K
    clear K
    have dz : decide ((0 : Int) < cz) = false := by simp; omega
    go_wp2_with fail
    go_ret
    exact ⟨_, rfl, HB.out, M.kept⟩

set_option maxHeartbeats 4000000 in
set_option maxRecDepth 100000 in
theorem copyCost_any (a : Value) (N : Nat) (w : World) (ha : NumV w a N) (hN : N < 256 ^ 90) : Calls Salg.prog 241 #[a] w fun e w' => ∃ r, e = .returned r ∧ NumV w' r (3 * wds N) ∧ Kept [] w w' := by
  have M := Mem.start w []
  have HA := hid ha
  clear ha
  have h1 : (N + 31) / 32 < 256 ^ 200 := Nat.lt_of_le_of_lt (Nat.div_le_self _ _) (by omega)
  go_enter Salg.func241, Salg.ntmps241
  go_wp2_with fail
  refine (num_int _ 3 rfl (by decide) _).mono ?_
  rintro e w1 ⟨r1, rfl, xH1, K⟩
  have H1 := hid xH1
  replace HA := hid (HA.out.kept K)
  replace M := M.call K
  clear K xH1
  go_wp2_with fail
  refine (words_any a N _ HA.out (by omega)).mono ?_
  rintro e w2 ⟨r2, rfl, xH2, K⟩
  have H2 := hid xH2
  replace H1 := hid (H1.out.kept K)
  replace M := M.call K
  clear K xH2
  go_wp2_with fail
  refine (mul_num r1 r2 3 ((N + 31) / 32) _ H1.out H2.out (by decide) h1).mono ?_
  rintro e w3 ⟨r3, rfl, xH3, K⟩
  have H3 := hid xH3
  replace M := M.call K
  clear K xH3
  go_wp2_with fail
  go_ret
  exact ⟨_, rfl, H3.out, M.kept⟩

set_option maxHeartbeats 4000000 in
set_option maxRecDepth 100000 in
theorem reach_calldatacopy (N O D : Nat) (fb q m G : Nat) (fs0 : Array Value) (mc : Value) (ns : List Nat) (w : World) (hF : FrameQ w fb q fs0 m G (ns ++ [N, O, D]) mc) (hl : ns.length ≤ 30) (hD : D < 256 ^ 90) (hN : N < 256 ^ 90) :
    Calls Salg.prog 114 #[.pointer (some ⟨fb, q, none⟩), .int .u8 55] w fun e w' => ∃ r, e = .returned r ∧ NumV w' r (endN D N) ∧ Kept [] w w' := by
  have M := Mem.start w []
  have HA0 := hid (fun w' (K : Kept [] w w') => arg_F fb q 0 D m G fs0 mc (ns ++ [N, O, D]) w' (hF.kept K) (by simp) (by simp) (by simp; omega))
  have HA2 := hid (fun w' (K : Kept [] w w') => arg_F fb q 2 N m G fs0 mc (ns ++ [N, O, D]) w' (hF.kept K) (by simp) (by simp) (by simp; omega))
  clear hF
  go_enter Salg.func114, Salg.ntmps114
  go_wp2_with fail
  refine (HA0.out _ M.kept).mono ?_
  rintro e w1 ⟨r0, rfl, xH0, K⟩
  have H0 := hid xH0
  replace M := M.call K
  clear K xH0
  go_wp2_with fail
  refine (HA2.out _ M.kept).mono ?_
  rintro e w2 ⟨r1, rfl, xH1, K⟩
  have H1 := hid xH1
  replace H0 := hid (H0.out.kept K)
  replace M := M.call K
  clear K xH1
  go_wp2_with fail
  refine (end_any r0 r1 D N _ H0.out H1.out (by omega) (by omega)).mono ?_
  rintro e w3 ⟨r2, rfl, xH2, K⟩
  have H2 := hid xH2
  replace M := M.call K
  clear K xH2
  go_wp2_with fail
  go_ret
  exact ⟨_, rfl, H2.out, M.kept⟩

set_option maxHeartbeats 4000000 in
set_option maxRecDepth 100000 in
theorem reach_codecopy (N O D : Nat) (fb q m G : Nat) (fs0 : Array Value) (mc : Value) (ns : List Nat) (w : World) (hF : FrameQ w fb q fs0 m G (ns ++ [N, O, D]) mc) (hl : ns.length ≤ 30) (hD : D < 256 ^ 90) (hN : N < 256 ^ 90) :
    Calls Salg.prog 114 #[.pointer (some ⟨fb, q, none⟩), .int .u8 57] w fun e w' => ∃ r, e = .returned r ∧ NumV w' r (endN D N) ∧ Kept [] w w' := by
  have M := Mem.start w []
  have HA0 := hid (fun w' (K : Kept [] w w') => arg_F fb q 0 D m G fs0 mc (ns ++ [N, O, D]) w' (hF.kept K) (by simp) (by simp) (by simp; omega))
  have HA2 := hid (fun w' (K : Kept [] w w') => arg_F fb q 2 N m G fs0 mc (ns ++ [N, O, D]) w' (hF.kept K) (by simp) (by simp) (by simp; omega))
  clear hF
  go_enter Salg.func114, Salg.ntmps114
  go_wp2_with fail
  refine (HA0.out _ M.kept).mono ?_
  rintro e w1 ⟨r0, rfl, xH0, K⟩
  have H0 := hid xH0
  replace M := M.call K
  clear K xH0
  go_wp2_with fail
  refine (HA2.out _ M.kept).mono ?_
  rintro e w2 ⟨r1, rfl, xH1, K⟩
  have H1 := hid xH1
  replace H0 := hid (H0.out.kept K)
  replace M := M.call K
  clear K xH1
  go_wp2_with fail
  refine (end_any r0 r1 D N _ H0.out H1.out (by omega) (by omega)).mono ?_
  rintro e w3 ⟨r2, rfl, xH2, K⟩
  have H2 := hid xH2
  replace M := M.call K
  clear K xH2
  go_wp2_with fail
  go_ret
  exact ⟨_, rfl, H2.out, M.kept⟩

set_option maxHeartbeats 4000000 in
set_option maxRecDepth 100000 in
theorem reach_returndatacopy (N O D : Nat) (fb q m G : Nat) (fs0 : Array Value) (mc : Value) (ns : List Nat) (w : World) (hF : FrameQ w fb q fs0 m G (ns ++ [N, O, D]) mc) (hl : ns.length ≤ 30) (hD : D < 256 ^ 90) (hN : N < 256 ^ 90) :
    Calls Salg.prog 114 #[.pointer (some ⟨fb, q, none⟩), .int .u8 62] w fun e w' => ∃ r, e = .returned r ∧ NumV w' r (endN D N) ∧ Kept [] w w' := by
  have M := Mem.start w []
  have HA0 := hid (fun w' (K : Kept [] w w') => arg_F fb q 0 D m G fs0 mc (ns ++ [N, O, D]) w' (hF.kept K) (by simp) (by simp) (by simp; omega))
  have HA2 := hid (fun w' (K : Kept [] w w') => arg_F fb q 2 N m G fs0 mc (ns ++ [N, O, D]) w' (hF.kept K) (by simp) (by simp) (by simp; omega))
  clear hF
  go_enter Salg.func114, Salg.ntmps114
  go_wp2_with fail
  refine (HA0.out _ M.kept).mono ?_
  rintro e w1 ⟨r0, rfl, xH0, K⟩
  have H0 := hid xH0
  replace M := M.call K
  clear K xH0
  go_wp2_with fail
  refine (HA2.out _ M.kept).mono ?_
  rintro e w2 ⟨r1, rfl, xH1, K⟩
  have H1 := hid xH1
  replace H0 := hid (H0.out.kept K)
  replace M := M.call K
  clear K xH1
  go_wp2_with fail
  refine (end_any r0 r1 D N _ H0.out H1.out (by omega) (by omega)).mono ?_
  rintro e w3 ⟨r2, rfl, xH2, K⟩
  have H2 := hid xH2
  replace M := M.call K
  clear K xH2
  go_wp2_with fail
  go_ret
  exact ⟨_, rfl, H2.out, M.kept⟩

set_option maxHeartbeats 4000000 in
set_option maxRecDepth 100000 in
theorem reach_extcodecopy (N O D : Nat) (fb q m G : Nat) (fs0 : Array Value) (mc : Value) (ns : List Nat) (w : World) (hF : FrameQ w fb q fs0 m G (ns ++ [N, O, D, 2]) mc) (hl : ns.length ≤ 30) (hD : D < 256 ^ 90) (hN : N < 256 ^ 90) :
    Calls Salg.prog 114 #[.pointer (some ⟨fb, q, none⟩), .int .u8 60] w fun e w' => ∃ r, e = .returned r ∧ NumV w' r (endN D N) ∧ Kept [] w w' := by
  have M := Mem.start w []
  have HA1 := hid (fun w' (K : Kept [] w w') => arg_F fb q 1 D m G fs0 mc (ns ++ [N, O, D, 2]) w' (hF.kept K) (by simp) (by simp) (by simp; omega))
  have HA3 := hid (fun w' (K : Kept [] w w') => arg_F fb q 3 N m G fs0 mc (ns ++ [N, O, D, 2]) w' (hF.kept K) (by simp) (by simp) (by simp; omega))
  clear hF
  go_enter Salg.func114, Salg.ntmps114
  go_wp2_with fail
  refine (HA1.out _ M.kept).mono ?_
  rintro e w1 ⟨r0, rfl, xH0, K⟩
  have H0 := hid xH0
  replace M := M.call K
  clear K xH0
  go_wp2_with fail
  refine (HA3.out _ M.kept).mono ?_
  rintro e w2 ⟨r1, rfl, xH1, K⟩
  have H1 := hid xH1
  replace H0 := hid (H0.out.kept K)
  replace M := M.call K
  clear K xH1
  go_wp2_with fail
  refine (end_any r0 r1 D N _ H0.out H1.out (by omega) (by omega)).mono ?_
  rintro e w3 ⟨r2, rfl, xH2, K⟩
  have H2 := hid xH2
  replace M := M.call K
  clear K xH2
  go_wp2_with fail
  go_ret
  exact ⟨_, rfl, H2.out, M.kept⟩

set_option maxHeartbeats 4000000 in
set_option maxRecDepth 100000 in
theorem reach_mcopy (N O D : Nat) (fb q m G : Nat) (fs0 : Array Value) (mc : Value) (ns : List Nat) (w : World) (hF : FrameQ w fb q fs0 m G (ns ++ [N, O, D]) mc) (hl : ns.length ≤ 30) (hD : D < 256 ^ 90) (hO : O < 256 ^ 90) (hN : N < 256 ^ 90) :
    Calls Salg.prog 114 #[.pointer (some ⟨fb, q, none⟩), .int .u8 94] w fun e w' => ∃ r, e = .returned r ∧ NumV w' r (max (endN D N) (endN O N)) ∧ Kept [] w w' := by
  have M := Mem.start w []
  have HA0 := hid (fun w' (K : Kept [] w w') => arg_F fb q 0 D m G fs0 mc (ns ++ [N, O, D]) w' (hF.kept K) (by simp) (by simp) (by simp; omega))
  have HA1 := hid (fun w' (K : Kept [] w w') => arg_F fb q 1 O m G fs0 mc (ns ++ [N, O, D]) w' (hF.kept K) (by simp) (by simp) (by simp; omega))
  have HA2 := hid (fun w' (K : Kept [] w w') => arg_F fb q 2 N m G fs0 mc (ns ++ [N, O, D]) w' (hF.kept K) (by simp) (by simp) (by simp; omega))
  clear hF
  go_enter Salg.func114, Salg.ntmps114
  go_wp2_with fail
  refine (HA0.out _ M.kept).mono ?_
  rintro e w1 ⟨r0, rfl, xH0, K⟩
  have H0 := hid xH0
  replace M := M.call K
  clear K xH0
  go_wp2_with fail
  refine (HA2.out _ M.kept).mono ?_
  rintro e w2 ⟨r1, rfl, xH1, K⟩
  have H1 := hid xH1
  replace H0 := hid (H0.out.kept K)
  replace M := M.call K
  clear K xH1
  go_wp2_with fail
  refine (end_any r0 r1 D N _ H0.out H1.out (by omega) (by omega)).mono ?_
  rintro e w3 ⟨r2, rfl, xH2, K⟩
  have H2 := hid xH2
  replace M := M.call K
  clear K xH2
  go_wp2_with fail
  refine (HA1.out _ M.kept).mono ?_
  rintro e w4 ⟨r3, rfl, xH3, K⟩
  have H3 := hid xH3
  replace H2 := hid (H2.out.kept K)
  replace M := M.call K
  clear K xH3
  go_wp2_with fail
  refine (HA2.out _ M.kept).mono ?_
  rintro e w5 ⟨r4, rfl, xH4, K⟩
  have H4 := hid xH4
  replace H2 := hid (H2.out.kept K)
  replace H3 := hid (H3.out.kept K)
  replace M := M.call K
  clear K xH4
  go_wp2_with fail
  refine (end_any r3 r4 O N _ H3.out H4.out (by omega) (by omega)).mono ?_
  rintro e w6 ⟨r5, rfl, xH5, K⟩
  have H5 := hid xH5
  replace H2 := hid (H2.out.kept K)
  replace M := M.call K
  clear K xH5
  go_wp2_with fail
  refine (maxNat_any r2 r5 _ _ _ H2.out H5.out).mono ?_
  rintro e w7 ⟨r6, rfl, xH6, K⟩
  have H6 := hid xH6
  replace M := M.call K
  clear K xH6
  go_wp2_with fail
  go_ret
  exact ⟨_, rfl, H6.out, M.kept⟩

set_option maxHeartbeats 4000000 in
set_option maxRecDepth 100000 in
theorem reach_call (ON OO IN IA V A : Nat) (fb q m G : Nat) (fs0 : Array Value) (mc : Value) (ns : List Nat) (w : World) (hF : FrameQ w fb q fs0 m G (ns ++ [ON, OO, IN, IA, V, 2, A]) mc) (hl : ns.length ≤ 30) (h1 : OO < 256 ^ 90) (h2 : ON < 256 ^ 90) (h3 : IA < 256 ^ 90) (h4 : IN < 256 ^ 90) :
    Calls Salg.prog 114 #[.pointer (some ⟨fb, q, none⟩), .int .u8 241] w fun e w' => ∃ r, e = .returned r ∧ NumV w' r (max (endN IA IN) (endN OO ON)) ∧ Kept [] w w' := by
  have M := Mem.start w []
  have HA3 := hid (fun w' (K : Kept [] w w') => arg_F fb q 3 IA m G fs0 mc (ns ++ [ON, OO, IN, IA, V, 2, A]) w' (hF.kept K) (by simp) (by simp) (by simp; omega))
  have HA4 := hid (fun w' (K : Kept [] w w') => arg_F fb q 4 IN m G fs0 mc (ns ++ [ON, OO, IN, IA, V, 2, A]) w' (hF.kept K) (by simp) (by simp) (by simp; omega))
  have HA5 := hid (fun w' (K : Kept [] w w') => arg_F fb q 5 OO m G fs0 mc (ns ++ [ON, OO, IN, IA, V, 2, A]) w' (hF.kept K) (by simp) (by simp) (by simp; omega))
  have HA6 := hid (fun w' (K : Kept [] w w') => arg_F fb q 6 ON m G fs0 mc (ns ++ [ON, OO, IN, IA, V, 2, A]) w' (hF.kept K) (by simp) (by simp) (by simp; omega))
  clear hF
  go_enter Salg.func114, Salg.ntmps114
  go_wp2_with fail
  refine (HA3.out _ M.kept).mono ?_
  rintro e w1 ⟨r0, rfl, xH0, K⟩
  have H0 := hid xH0
  replace M := M.call K
  clear K xH0
  go_wp2_with fail
  refine (HA4.out _ M.kept).mono ?_
  rintro e w2 ⟨r1, rfl, xH1, K⟩
  have H1 := hid xH1
  replace H0 := hid (H0.out.kept K)
  replace M := M.call K
  clear K xH1
  go_wp2_with fail
  refine (end_any r0 r1 IA IN _ H0.out H1.out (by omega) (by omega)).mono ?_
  rintro e w3 ⟨r2, rfl, xH2, K⟩
  have H2 := hid xH2
  replace M := M.call K
  clear K xH2
  go_wp2_with fail
  refine (HA5.out _ M.kept).mono ?_
  rintro e w4 ⟨r3, rfl, xH3, K⟩
  have H3 := hid xH3
  replace H2 := hid (H2.out.kept K)
  replace M := M.call K
  clear K xH3
  go_wp2_with fail
  refine (HA6.out _ M.kept).mono ?_
  rintro e w5 ⟨r4, rfl, xH4, K⟩
  have H4 := hid xH4
  replace H2 := hid (H2.out.kept K)
  replace H3 := hid (H3.out.kept K)
  replace M := M.call K
  clear K xH4
  go_wp2_with fail
  refine (end_any r3 r4 OO ON _ H3.out H4.out (by omega) (by omega)).mono ?_
  rintro e w6 ⟨r5, rfl, xH5, K⟩
  have H5 := hid xH5
  replace H2 := hid (H2.out.kept K)
  replace M := M.call K
  clear K xH5
  go_wp2_with fail
  refine (maxNat_any r2 r5 _ _ _ H2.out H5.out).mono ?_
  rintro e w7 ⟨r6, rfl, xH6, K⟩
  have H6 := hid xH6
  replace M := M.call K
  clear K xH6
  go_wp2_with fail
  go_ret
  exact ⟨_, rfl, H6.out, M.kept⟩

set_option maxHeartbeats 4000000 in
set_option maxRecDepth 100000 in
theorem bareCost_calldatacopy (st : Value) (N O D : Nat) (fb q m G : Nat) (fs0 : Array Value) (mc : Value) (ns : List Nat) (w : World) (hF : FrameQ w fb q fs0 m G (ns ++ [N, O, D]) mc) (hl : ns.length ≤ 30) (hN : N < 256 ^ 90) :
    Calls Salg.prog 217 #[st, .pointer (some ⟨fb, q, none⟩), .int .u8 55] w fun e w' => ∃ r, e = .returned r ∧ NumV w' r (3 + 3 * wds N) ∧ Kept [] w w' := by
  have M := Mem.start w []
  have HA2 := hid (fun w' (K : Kept [] w w') => arg_F fb q 2 N m G fs0 mc (ns ++ [N, O, D]) w' (hF.kept K) (by simp) (by simp) (by simp; omega))
  clear hF
  have hb : 3 * wds N < 256 ^ 200 := by
    have : wds N ≤ N + 31 := Nat.div_le_self _ _
    omega
  go_enter Salg.func217, Salg.ntmps217
  go_wp2_with fail
  refine (num_int _ 3 rfl (by decide) _).mono ?_
  rintro e w1 ⟨r0, rfl, xH0, K⟩
  have H0 := hid xH0
  replace M := M.call K
  clear K xH0
  go_wp2_with fail
  refine (HA2.out _ M.kept).mono ?_
  rintro e w2 ⟨r1, rfl, xH1, K⟩
  have H1 := hid xH1
  replace H0 := hid (H0.out.kept K)
  replace M := M.call K
  clear K xH1
  go_wp2_with fail
  refine (copyCost_any r1 N _ H1.out hN).mono ?_
  rintro e w3 ⟨r2, rfl, xH2, K⟩
  have H2 := hid xH2
  replace H0 := hid (H0.out.kept K)
  replace M := M.call K
  clear K xH2
  go_wp2_with fail
  refine (add_num r0 r2 3 (3 * wds N) _ H0.out H2.out (by decide) hb).mono ?_
  rintro e w4 ⟨r3, rfl, xH3, K⟩
  have H3 := hid xH3
  replace M := M.call K
  clear K xH3
  go_wp2_with fail
  go_ret
  exact ⟨_, rfl, H3.out, M.kept⟩

set_option maxHeartbeats 4000000 in
set_option maxRecDepth 100000 in
theorem bareCost_codecopy (st : Value) (N O D : Nat) (fb q m G : Nat) (fs0 : Array Value) (mc : Value) (ns : List Nat) (w : World) (hF : FrameQ w fb q fs0 m G (ns ++ [N, O, D]) mc) (hl : ns.length ≤ 30) (hN : N < 256 ^ 90) :
    Calls Salg.prog 217 #[st, .pointer (some ⟨fb, q, none⟩), .int .u8 57] w fun e w' => ∃ r, e = .returned r ∧ NumV w' r (3 + 3 * wds N) ∧ Kept [] w w' := by
  have M := Mem.start w []
  have HA2 := hid (fun w' (K : Kept [] w w') => arg_F fb q 2 N m G fs0 mc (ns ++ [N, O, D]) w' (hF.kept K) (by simp) (by simp) (by simp; omega))
  clear hF
  have hb : 3 * wds N < 256 ^ 200 := by
    have : wds N ≤ N + 31 := Nat.div_le_self _ _
    omega
  go_enter Salg.func217, Salg.ntmps217
  go_wp2_with fail
  refine (num_int _ 3 rfl (by decide) _).mono ?_
  rintro e w1 ⟨r0, rfl, xH0, K⟩
  have H0 := hid xH0
  replace M := M.call K
  clear K xH0
  go_wp2_with fail
  refine (HA2.out _ M.kept).mono ?_
  rintro e w2 ⟨r1, rfl, xH1, K⟩
  have H1 := hid xH1
  replace H0 := hid (H0.out.kept K)
  replace M := M.call K
  clear K xH1
  go_wp2_with fail
  refine (copyCost_any r1 N _ H1.out hN).mono ?_
  rintro e w3 ⟨r2, rfl, xH2, K⟩
  have H2 := hid xH2
  replace H0 := hid (H0.out.kept K)
  replace M := M.call K
  clear K xH2
  go_wp2_with fail
  refine (add_num r0 r2 3 (3 * wds N) _ H0.out H2.out (by decide) hb).mono ?_
  rintro e w4 ⟨r3, rfl, xH3, K⟩
  have H3 := hid xH3
  replace M := M.call K
  clear K xH3
  go_wp2_with fail
  go_ret
  exact ⟨_, rfl, H3.out, M.kept⟩

set_option maxHeartbeats 4000000 in
set_option maxRecDepth 100000 in
theorem bareCost_returndatacopy (st : Value) (N O D : Nat) (fb q m G : Nat) (fs0 : Array Value) (mc : Value) (ns : List Nat) (w : World) (hF : FrameQ w fb q fs0 m G (ns ++ [N, O, D]) mc) (hl : ns.length ≤ 30) (hN : N < 256 ^ 90) :
    Calls Salg.prog 217 #[st, .pointer (some ⟨fb, q, none⟩), .int .u8 62] w fun e w' => ∃ r, e = .returned r ∧ NumV w' r (3 + 3 * wds N) ∧ Kept [] w w' := by
  have M := Mem.start w []
  have HA2 := hid (fun w' (K : Kept [] w w') => arg_F fb q 2 N m G fs0 mc (ns ++ [N, O, D]) w' (hF.kept K) (by simp) (by simp) (by simp; omega))
  clear hF
  have hb : 3 * wds N < 256 ^ 200 := by
    have : wds N ≤ N + 31 := Nat.div_le_self _ _
    omega
  go_enter Salg.func217, Salg.ntmps217
  go_wp2_with fail
  refine (num_int _ 3 rfl (by decide) _).mono ?_
  rintro e w1 ⟨r0, rfl, xH0, K⟩
  have H0 := hid xH0
  replace M := M.call K
  clear K xH0
  go_wp2_with fail
  refine (HA2.out _ M.kept).mono ?_
  rintro e w2 ⟨r1, rfl, xH1, K⟩
  have H1 := hid xH1
  replace H0 := hid (H0.out.kept K)
  replace M := M.call K
  clear K xH1
  go_wp2_with fail
  refine (copyCost_any r1 N _ H1.out hN).mono ?_
  rintro e w3 ⟨r2, rfl, xH2, K⟩
  have H2 := hid xH2
  replace H0 := hid (H0.out.kept K)
  replace M := M.call K
  clear K xH2
  go_wp2_with fail
  refine (add_num r0 r2 3 (3 * wds N) _ H0.out H2.out (by decide) hb).mono ?_
  rintro e w4 ⟨r3, rfl, xH3, K⟩
  have H3 := hid xH3
  replace M := M.call K
  clear K xH3
  go_wp2_with fail
  go_ret
  exact ⟨_, rfl, H3.out, M.kept⟩

set_option maxHeartbeats 4000000 in
set_option maxRecDepth 100000 in
theorem bareCost_mcopy (st : Value) (N O D : Nat) (fb q m G : Nat) (fs0 : Array Value) (mc : Value) (ns : List Nat) (w : World) (hF : FrameQ w fb q fs0 m G (ns ++ [N, O, D]) mc) (hl : ns.length ≤ 30) (hN : N < 256 ^ 90) :
    Calls Salg.prog 217 #[st, .pointer (some ⟨fb, q, none⟩), .int .u8 94] w fun e w' => ∃ r, e = .returned r ∧ NumV w' r (3 + 3 * wds N) ∧ Kept [] w w' := by
  have M := Mem.start w []
  have HA2 := hid (fun w' (K : Kept [] w w') => arg_F fb q 2 N m G fs0 mc (ns ++ [N, O, D]) w' (hF.kept K) (by simp) (by simp) (by simp; omega))
  clear hF
  have hb : 3 * wds N < 256 ^ 200 := by
    have : wds N ≤ N + 31 := Nat.div_le_self _ _
    omega
  go_enter Salg.func217, Salg.ntmps217
  go_wp2_with fail
  refine (num_int _ 3 rfl (by decide) _).mono ?_
  rintro e w1 ⟨r0, rfl, xH0, K⟩
  have H0 := hid xH0
  replace M := M.call K
  clear K xH0
  go_wp2_with fail
  refine (HA2.out _ M.kept).mono ?_
  rintro e w2 ⟨r1, rfl, xH1, K⟩
  have H1 := hid xH1
  replace H0 := hid (H0.out.kept K)
  replace M := M.call K
  clear K xH1
  go_wp2_with fail
  refine (copyCost_any r1 N _ H1.out hN).mono ?_
  rintro e w3 ⟨r2, rfl, xH2, K⟩
  have H2 := hid xH2
  replace H0 := hid (H0.out.kept K)
  replace M := M.call K
  clear K xH2
  go_wp2_with fail
  refine (add_num r0 r2 3 (3 * wds N) _ H0.out H2.out (by decide) hb).mono ?_
  rintro e w4 ⟨r3, rfl, xH3, K⟩
  have H3 := hid xH3
  replace M := M.call K
  clear K xH3
  go_wp2_with fail
  go_ret
  exact ⟨_, rfl, H3.out, M.kept⟩

set_option maxHeartbeats 4000000 in
set_option maxRecDepth 100000 in
theorem bareCost_extcodecopy (c AC N O D : Nat) (fb q m G : Nat) (fs0 : Array Value) (mc : Value) (ns : List Nat) (w : World) (hF : FrameQ w fb q fs0 m G (ns ++ [N, O, D, 2]) mc) (hl : ns.length ≤ 30) (hN : N < 256 ^ 90) (hAC : AC < 100000)
    (hAcc : ∀ w', Kept [] w w' → Calls Salg.prog 242 #[.pointer (some ⟨c, 0, none⟩), A8 (ad 2)] w' fun e w'' => ∃ r, e = .returned r ∧ NumV w'' r AC ∧ Kept [] w' w'') :
    Calls Salg.prog 217 #[.pointer (some ⟨c, 0, none⟩), .pointer (some ⟨fb, q, none⟩), .int .u8 60] w fun e w' => ∃ r, e = .returned r ∧ NumV w' r (AC + 3 * wds N) ∧ Kept [] w w' := by
  have M := Mem.start w []
  have HA0 := hid (fun w' (K : Kept [] w w') => arg_F fb q 0 2 m G fs0 mc (ns ++ [N, O, D, 2]) w' (hF.kept K) (by simp) (by simp) (by simp; omega))
  have HA3 := hid (fun w' (K : Kept [] w w') => arg_F fb q 3 N m G fs0 mc (ns ++ [N, O, D, 2]) w' (hF.kept K) (by simp) (by simp) (by simp; omega))
  have HAC := hid hAcc
  clear hF hAcc
  have hb : 3 * wds N < 256 ^ 200 := by
    have : wds N ≤ N + 31 := Nat.div_le_self _ _
    omega
  go_enter Salg.func217, Salg.ntmps217
  go_wp2_with fail
  refine S_region (by kernel_rfl) ?_
  refine E_stage 0 12 [0, 1, 2, 3, 7, 4, 5, 6, 8, 9, 10, 11] (by kernel_rfl) M.drew ?_
  clear M
  simp only [List.filterMap_cons, List.filterMap_nil, List.getElem?_cons_zero, List.getElem?_cons_succ]
  ((with_reducible apply E_run); rfl; rfl; (intro w M; go_simp; (try go_ints); (try simp only [↓IntWalk.iteOmega]); (try with_reducible rfl)); simp only [Act.put, List.setIfInBounds_toArray, List.set_cons_zero, List.set_cons_succ])
  ((with_reducible apply E_run); rfl; rfl; (intro w M; go_simp; (try go_ints); (try simp only [↓IntWalk.iteOmega]); (try with_reducible rfl)); simp only [Act.put, List.setIfInBounds_toArray, List.set_cons_zero, List.set_cons_succ])
  ((with_reducible apply E_run); rfl; rfl; (intro w M; go_simp; (try go_ints); (try simp only [↓IntWalk.iteOmega]); (try with_reducible rfl)); simp only [Act.put, List.setIfInBounds_toArray, List.set_cons_zero, List.set_cons_succ])
  ((with_reducible apply E_run); rfl; rfl; (intro w M; go_simp; (try go_ints); (try simp only [↓IntWalk.iteOmega]); (try with_reducible rfl)); simp only [Act.put, List.setIfInBounds_toArray, List.set_cons_zero, List.set_cons_succ])
  ((with_reducible apply E_run); rfl; rfl; (intro w M; go_simp; (try go_ints); (try simp only [↓IntWalk.iteOmega]); (try with_reducible rfl)); simp only [Act.put, List.setIfInBounds_toArray, List.set_cons_zero, List.set_cons_succ])
  refine E_call rfl Salg.func116 (by kernel_rfl) (by kernel_rfl) (args := [.pointer (some ⟨fb, q, none⟩), .int .i64 0]) rfl ?_
  intro w1 K M
  clear K
  refine (HA0.out _ M.kept).mono ?_
  rintro e w1 ⟨r0, rfl, xH0, K⟩
  have H0 := hid xH0
  clear xH0
  replace M := M.call K
  refine ⟨_, rfl, trivial, M, ?_⟩
  clear K
  simp only [Act.put, List.setIfInBounds_toArray, List.set_cons_zero, List.set_cons_succ]
  refine E_call rfl Salg.func191 (by kernel_rfl) (by kernel_rfl) (args := [r0]) rfl ?_
  intro w1 K M
  replace H0 := hid (H0.out.kept K)
  clear K
  refine (addrOf_two r0 _ H0.out).mono ?_
  rintro e w2 ⟨rfl, K⟩
  replace H0 := hid (H0.out.kept K)
  replace M := M.call K
  refine ⟨_, rfl, trivial, M, ?_⟩
  clear K
  simp only [Act.put, List.setIfInBounds_toArray, List.set_cons_zero, List.set_cons_succ]
  refine E_call rfl Salg.func242 (by kernel_rfl) (by kernel_rfl) (args := [.pointer (some ⟨c, 0, none⟩), A8 (ad 2)]) rfl ?_
  intro w1 K M
  clear K
  refine (HAC.out _ M.kept).mono ?_
  rintro e w3 ⟨r1, rfl, xH1, K⟩
  have H1 := hid xH1
  clear xH1
  replace M := M.call K
  refine ⟨_, rfl, trivial, M, ?_⟩
  clear K
  simp only [Act.put, List.setIfInBounds_toArray, List.set_cons_zero, List.set_cons_succ]
  refine E_call rfl Salg.func116 (by kernel_rfl) (by kernel_rfl) (args := [.pointer (some ⟨fb, q, none⟩), .int .i64 3]) rfl ?_
  intro w1 K M
  replace H1 := hid (H1.out.kept K)
  clear K
  refine (HA3.out _ M.kept).mono ?_
  rintro e w4 ⟨r2, rfl, xH2, K⟩
  have H2 := hid xH2
  clear xH2
  replace H1 := hid (H1.out.kept K)
  replace M := M.call K
  refine ⟨_, rfl, trivial, M, ?_⟩
  clear K
  simp only [Act.put, List.setIfInBounds_toArray, List.set_cons_zero, List.set_cons_succ]
  refine E_call rfl Salg.func241 (by kernel_rfl) (by kernel_rfl) (args := [r2]) rfl ?_
  intro w1 K M
  replace H1 := hid (H1.out.kept K)
  replace H2 := hid (H2.out.kept K)
  clear K
  refine (copyCost_any r2 N _ H2.out hN).mono ?_
  rintro e w5 ⟨r3, rfl, xH3, K⟩
  have H3 := hid xH3
  clear xH3
  replace H1 := hid (H1.out.kept K)
  replace H2 := hid (H2.out.kept K)
  replace M := M.call K
  refine ⟨_, rfl, trivial, M, ?_⟩
  clear K
  simp only [Act.put, List.setIfInBounds_toArray, List.set_cons_zero, List.set_cons_succ]
  refine E_call rfl Salg.func68 (by kernel_rfl) (by kernel_rfl) (args := [r1, r3]) rfl ?_
  intro w1 K M
  replace H1 := hid (H1.out.kept K)
  replace H3 := hid (H3.out.kept K)
  clear K
  refine (add_num r1 r3 AC (3 * wds N) _ H1.out H3.out (by omega) hb).mono ?_
  rintro e w6 ⟨r4, rfl, xH4, K⟩
  have H4 := hid xH4
  clear xH4
  replace H1 := hid (H1.out.kept K)
  replace H3 := hid (H3.out.kept K)
  replace M := M.call K
  refine ⟨_, rfl, trivial, M, ?_⟩
  clear K
  simp only [Act.put, List.setIfInBounds_toArray, List.set_cons_zero, List.set_cons_succ]
  ((with_reducible apply E_run); rfl; rfl; (intro w M; go_simp; (try go_ints); (try simp only [↓IntWalk.iteOmega]); (try with_reducible rfl)); simp only [Act.put, List.setIfInBounds_toArray, List.set_cons_zero, List.set_cons_succ])
  refine E_nil ?_
  intro w7 K M
  replace H4 := hid (H4.out.kept K)
  clear K
  refine S_done ?_
  go_wp2_with fail
  go_ret
  exact ⟨_, rfl, H4.out, M.kept⟩

set_option maxHeartbeats 4000000 in
set_option maxRecDepth 100000 in
theorem enterCost_call (c AC ON OO IN IA A : Nat) (fb q m G : Nat) (fs0 : Array Value) (mc : Value) (ns : List Nat) (w : World) (hF : FrameQ w fb q fs0 m G (ns ++ [ON, OO, IN, IA, 0, 2, A]) mc) (hl : ns.length ≤ 30)
    (hAcc : ∀ w', Kept [] w w' → Calls Salg.prog 242 #[.pointer (some ⟨c, 0, none⟩), A8 (ad 2)] w' fun e w'' => ∃ r, e = .returned r ∧ NumV w'' r AC ∧ Kept [] w' w'') :
    Calls Salg.prog 245 #[.pointer (some ⟨c, 0, none⟩), .pointer (some ⟨fb, q, none⟩), .int .u8 241] w fun e w' => ∃ r, e = .returned r ∧ NumV w' r AC ∧ Kept [] w w' := by
  have M := Mem.start w []
  have HA1 := hid (fun w' (K : Kept [] w w') => arg_F fb q 1 2 m G fs0 mc (ns ++ [ON, OO, IN, IA, 0, 2, A]) w' (hF.kept K) (by simp) (by simp) (by simp; omega))
  have HA2 := hid (fun w' (K : Kept [] w w') => arg_F fb q 2 0 m G fs0 mc (ns ++ [ON, OO, IN, IA, 0, 2, A]) w' (hF.kept K) (by simp) (by simp) (by simp; omega))
  have HAC := hid hAcc
  clear hF hAcc
  go_enter Salg.func245, Salg.ntmps245
  go_wp2_with fail
  refine (HA1.out _ M.kept).mono ?_
  rintro e w1 ⟨r0, rfl, xH0, K⟩
  have H0 := hid xH0
  replace M := M.call K
  clear K xH0
  go_wp2_with fail
  refine (addrOf_two r0 _ H0.out).mono ?_
  rintro e w2 ⟨rfl, K⟩
  replace M := M.call K
  clear K
  go_wp2_with (first
    | ((with_reducible apply L_allocA M); exact zero45; clear M; intro t7 w3 ht7 M; simp only [Act.put, List.setIfInBounds_toArray, List.set_cons_zero, List.set_cons_succ])
    | ((with_reducible apply W_storeK (b := t7) (vs := ((ad 2).map n8).toArray)); rfl; rfl; exact M.r0; exact size45; rfl; exact oneL rfl; intro w4 K hr3; replace M := Mem.callPut (L1 := []) M (Or.inr ht7) K hr3; clear K hr3; simp only [List.nil_append] at M))
  refine S_region (by kernel_rfl) ?_
  refine E_stage 0 6 [0, 1, 2, 3, 4, 5] (by kernel_rfl) M.drew ?_
  clear M
  simp only [List.filterMap_cons, List.filterMap_nil, List.getElem?_cons_zero, List.getElem?_cons_succ]
  ((with_reducible apply E_run); rfl; rfl; (intro w M; go_simp; (try go_ints); (try simp only [↓IntWalk.iteOmega]); (try with_reducible rfl)); simp only [Act.put, List.setIfInBounds_toArray, List.set_cons_zero, List.set_cons_succ])
  ((with_reducible apply E_run); rfl; rfl; (intro w M; go_simp; (try go_ints); (try simp only [↓IntWalk.iteOmega]); (try with_reducible rfl)); simp only [Act.put, List.setIfInBounds_toArray, List.set_cons_zero, List.set_cons_succ])
  ((with_reducible apply E_run); rfl; rfl; (intro w M; go_simp; (try go_ints); (try simp only [↓IntWalk.iteOmega]); (try with_reducible rfl)); simp only [Act.put, List.setIfInBounds_toArray, List.set_cons_zero, List.set_cons_succ])
  ((with_reducible apply E_run); rfl; rfl; (intro w M; exact run_loadAll M.r0 rfl Salg.underlying45 rfl size45); simp only [Act.put, List.setIfInBounds_toArray, List.set_cons_zero, List.set_cons_succ])
  refine E_call rfl Salg.func242 (by kernel_rfl) (by kernel_rfl) (args := [.pointer (some ⟨c, 0, none⟩), A8 (ad 2)]) rfl ?_
  intro w1 K M
  clear K
  refine (HAC.out _ M.kept).mono ?_
  rintro e w5 ⟨r1, rfl, xH1, K⟩
  have H1 := hid xH1
  clear xH1
  replace M := M.call K
  refine ⟨_, rfl, trivial, M, ?_⟩
  clear K
  simp only [Act.put, List.setIfInBounds_toArray, List.set_cons_zero, List.set_cons_succ]
  ((with_reducible apply E_run); rfl; rfl; (intro w M; go_simp; (try go_ints); (try simp only [↓IntWalk.iteOmega]); (try with_reducible rfl)); simp only [Act.put, List.setIfInBounds_toArray, List.set_cons_zero, List.set_cons_succ])
  refine E_nil ?_
  intro w6 K M
  replace H1 := hid (H1.out.kept K)
  clear K
  refine S_done ?_
  go_wp2_with fail
  refine (HA2.out _ M.kept).mono ?_
  rintro e w7 ⟨r2, rfl, xH2, K⟩
  have H2 := hid xH2
  replace H1 := hid (H1.out.kept K)
  replace M := M.call K
  clear K xH2
  go_wp2_with fail
  refine (isZero_any r2 0 _ H2.out).mono ?_
  rintro e w8 ⟨rfl, K⟩
  replace H1 := hid (H1.out.kept K)
  replace M := M.call K
  clear K
  go_wp2_with fail
  go_ret
  exact ⟨_, rfl, H1.out, M.kept⟩

set_option maxHeartbeats 4000000 in
set_option maxRecDepth 100000 in
theorem bareCost_call (st f : Value) (C : Nat) (w : World) (hs : Calls Salg.prog 245 #[st, f, .int .u8 241] w fun e w' => ∃ r, e = .returned r ∧ NumV w' r C ∧ Kept [] w w') :
    Calls Salg.prog 217 #[st, f, .int .u8 241] w fun e w' => ∃ r, e = .returned r ∧ NumV w' r C ∧ Kept [] w w' := by
  have HS := hid hs
  clear hs
  go_enter Salg.func217, Salg.ntmps217
  go_wp2_with fail
  refine (family_call _).mono ?_
  rintro e w1 ⟨rfl, hw⟩
  replace hw := hw.symm
  subst hw
  go_wp2_with fail
  refine HS.out.mono ?_
  rintro e w2 ⟨r, rfl, xr, K⟩
  have HR := hid xr
  have HK := hid K
  clear xr K
  go_wp2_with fail
  go_ret
  exact ⟨_, rfl, HR.out, HK.out⟩
end Go.Proofs.YgcsalGreat

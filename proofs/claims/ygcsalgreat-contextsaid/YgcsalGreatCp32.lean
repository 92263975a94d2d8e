/-
  The run of the callee that returns its input.
-/
import Derived.Test.YgcsalGreatCp31
set_option linter.unusedSimpArgs false
set_option linter.unusedVariables false
namespace Go.Own
theorem cutB_pre (dd x : List Nat) : cutB (dd ++ x) 0 dd.length = dd := by
  have h : dd.length - ((dd ++ x).length - 0) = 0 := by simp
  unfold cutB
  rw [h]
  simp
theorem cutB_self (dd : List Nat) : cutB dd 0 dd.length = dd := by
  have := cutB_pre dd []
  simpa using this
theorem echo_out (dd : List Nat) : cutB (growB (wrB (growB [] (endN 0 dd.length)) 0 (cutB dd 0 dd.length)) (endN 0 dd.length)) 0 dd.length = dd := by
  rw [cutB_self]
  unfold wrB
  rw [List.take_zero, List.nil_append]
  unfold growB
  rw [List.append_assoc]
  exact cutB_pre _ _
end Go.Own
namespace Go.Proofs.YgcsalGreat
open Go.RowKit Go.Own
theorem play_echo {wB wC : World} {c fbB : Nat} {E : CEnv} {fb cap : Nat} {cur fs0 : Array Value} {mb W1 : Nat} {mem1 : List Nat} {pv gv sv r6 r7 cw sg vn iu a0 a1 a2 a3 : Value} {m1 G1 G2 OA ON : Nat} {dd ds1 : List Nat} {la : List (List Nat)} {n : Nat} {Q : World → Prop} (hC : CallS wB c fbB E fb cap cur fs0 mb W1 mem1 pv gv sv r6 r7 cw sg vn iu a0 a1 a2 a3 m1 G1 G2 OA ON dd ds1 [54, 95, 95, 55, 54, 95, 243] la wC) (hdl : dd.length ≤ 200) (hON : ON ≤ 300) (hfit : OA + min ON dd.length ≤ mem1.length) (hm2 : m1 ≤ 900) (g1 : 1000 ≤ G1) (g2 : 50000 ≤ G2) (g3 : G1 + G2 ≤ 200000)
    (k : ∀ w' (fs1 : Array Value) (rt' : Value), StG 40000 200000 wB c fbB E 1 fb 0 1 1 fs1 (m1 + 1) [1] (wrB mem1 OA (dd.take (min ON dd.length))) W1 rt' dd la w' → (∀ k, k < 60 → fs1[k]? = cur[k]?) → fs1.size = cur.size → Play c Q n w') : Play c Q (n + 7) wC := by
  obtain ⟨hE, hfd, h11⟩ := hC.start
  have R : RunE wC c fb 60 cw [54, 95, 95, 55, 54, 95, 243] cur := ⟨hC.hard, hC.ncw, hfd, by decide⟩
  obtain ⟨sp, sq, hiu⟩ : ∃ sp sq, iu = .slice sp dd.length sq := by
    obtain ⟨p, cc, e, _⟩ := hC.niu
    exact ⟨p, cc, e⟩
  have h11' : cur[60 + 11]? = some (.slice sp dd.length sq) := by rw [h11, hiu]
  have g4 : G2 ≤ 200000 := by omega
  have h0 : StG G2 G2 wC c fb E 0 fb 60 2 cap cur 0 [] [] 0 nilS [] la wC := ⟨G2, Nat.le_refl _, Nat.le_refl _, g4, hE⟩
  refine play_calldatasize2 dd.length 0 sp sq R h0 rfl h11' (by omega) (by simp) (Nat.le_refl _) (Nat.zero_le _) (by decide) (by omega) fun w1 h1 => ?_
  refine play_push02 0 R h1 rfl (by simp) (Nat.le_refl _) (Nat.zero_le _) (by decide) (by omega) fun w2 h2 => ?_
  refine play_push02 0 R h2 rfl (by simp) (Nat.le_refl _) (Nat.zero_le _) (by decide) (by omega) fun w3 h3 => ?_
  refine play_calldatacopy2 (ns := []) dd.length 0 0 iu dd R h3 rfl (by simp) (Nat.zero_le _) (Nat.zero_le _) (by decide) (by omega) hC.niu h11 (by omega) (by decide) (by omega) fun w4 h4 => ?_
  refine play_calldatasize2 (ns := []) dd.length 0 sp sq R h4 rfl h11' (by omega) (by simp) (Nat.zero_le _) (Nat.zero_le _) (by decide) (by omega) fun w5 h5 => ?_
  refine play_push02 0 R h5 rfl (by simp) (Nat.le_refl _) (Nat.zero_le _) (by decide) (by omega) fun w6 h6 => ?_
  obtain ⟨G, q1, q2, q3, hE6⟩ := h6
  have hgr := growC_le (W := max 0 (wds (endN 0 dd.length))) (memC_small (U := endN 0 dd.length) (by have := endN_le 0 dd.length; omega))
  refine Play.step (stepX_return2 dd.length 0 hC hE6 rfl (by decide) (by decide) (by omega) (by omega) (Nat.zero_le _) (by decide) (by omega) hON hfit hm2 (by omega)) ?_
  rintro w7 ⟨fs1, rt', x1, x2, x3⟩
  rw [echo_out] at x1
  exact k w7 fs1 rt' ⟨_, by omega, by omega, Nat.le_refl _, x1⟩ x2 x3
end Go.Proofs.YgcsalGreat

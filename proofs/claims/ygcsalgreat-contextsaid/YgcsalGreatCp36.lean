/-
  The runs of the programs that load a word of data, and that copy within memory.
-/
import Derived.Test.YgcsalGreatCp35
set_option linter.unusedSimpArgs false
set_option linter.unusedVariables false
namespace Go.Own
theorem wrB_over {mem bs : List Nat} (h : bs.length = mem.length) : wrB mem 0 bs = bs := by
  unfold wrB
  rw [h, Nat.zero_add, List.drop_length, List.take_zero]
  simp
end Go.Own
namespace Go.Proofs.YgcsalGreat
open Go.RowKit Go.Own
theorem run_0 {w0 wB : World} {c fb cap : Nat} {E : CEnv} {cur : Array Value} {dd ds2 : List Nat} {cv iu vv g0 a0 a1 a2 a3 : Value} (s : Nat) (B : BegS w0 wB c fb cap E cur dd [96, s, 53, 95, 82, 96, 32, 95, 243] ds2 cv iu vv g0 a0 a1 a2 a3) (h : StG 170000 200000 wB c fb E 0 fb 0 1 cap cur 0 [] [] 0 nilS [] la5 wB) (hs : s < 64) (hdl : dd.length ≤ 100) : Play c (fun w2 => EndZ w2 c 0 (cutB dd s 32) ∧ Kept [c] w0 w2) 7 wB := by
  have R := B.run (Nat.le_of_ble_eq_true rfl)
  refine play_push1 (ns := []) s 0 R h rfl (be_cut1 rfl) (by simp) (Nat.zero_le _) (Nat.zero_le _) (by decide) (by decide) fun w1 s1 => ?_
  refine play_calldataload (ns := []) s 0 iu dd R s1 rfl B.inp B.input (by omega) (by simp) (Nat.zero_le _) (Nat.zero_le _) (by decide) (by decide) fun w2 s2 => ?_
  refine play_push0 (ns := [be (cutB dd s 32)]) 0 R s2 rfl (by simp) (Nat.zero_le _) (Nat.zero_le _) (by decide) (by decide) fun w3 s3 => ?_
  refine play_mstore (ns := []) 0 (cutB dd s 32) R s3 rfl (by simp) (Nat.zero_le _) (Nat.zero_le _) (cutB_length _ _ _) (cutB_small B.inp.small _ _) (by decide) (by decide) (by decide) fun w4 s4 => ?_
  have e1 : wrB (growB [] (0 + 32)) 0 (cutB dd s 32) = cutB dd s 32 := wrB_over (by rw [cutB_length]; rfl)
  rw [e1] at s4
  refine play_push1 (ns := []) 32 0 R s4 rfl (be_cut1 rfl) (by simp) (Nat.zero_le _) (Nat.zero_le _) (by decide) (by decide) fun w5 s5 => ?_
  refine play_push0 (ns := [32]) 0 R s5 rfl (by simp) (Nat.zero_le _) (Nat.zero_le _) (by decide) (by decide) fun w6 s6 => ?_
  have hf := play_return (ns := []) 32 0 nilS nilS B R s6 (fun k hk _ _ _ _ => B.cells k hk) rfl rfl B.cap1 rfl (by simp) (Nat.zero_le _) (by decide) (by decide) (by decide) (by decide)
  have e2 : cutB (growB (cutB dd s 32) (endN 0 32)) 0 32 = cutB dd s 32 := by
    rw [growB_same (W := 1) (cutB_length _ _ _) (by decide)]
    exact cutB_whole (cutB_length _ _ _)
  rw [e2] at hf
  exact hf
theorem run_0f {w0 wB : World} {c fb cap : Nat} {E : CEnv} {cur : Array Value} {dd ds2 : List Nat} {cv iu vv g0 a0 a1 a2 a3 : Value} (s : Nat) (B : BegS w0 wB c fb cap E cur dd [127, 0, 0, 0, 0, 0, 0, 1, 0, 0, 0, 0, 0, 0, 0, 0, 0, 0, 0, 0, 0, 0, 0, 0, 0, 0, 0, 0, 0, 0, 0, 0, s, 53, 95, 82, 96, 32, 95, 243] ds2 cv iu vv g0 a0 a1 a2 a3) (h : StG 170000 200000 wB c fb E 0 fb 0 1 cap cur 0 [] [] 0 nilS [] la5 wB) (hs : s < 64) (hdl : dd.length ≤ 100) : Play c (fun w2 => EndZ w2 c 0 (cutB dd (2 ^ 200 + s) 32) ∧ Kept [c] w0 w2) 7 wB := by
  have R := B.run (Nat.le_of_ble_eq_true rfl)
  refine play_push32 (ns := []) (2 ^ 200 + s) 0 R h rfl (far_word s) (by simp) (Nat.zero_le _) (Nat.zero_le _) (by decide) (by decide) fun w1 s1 => ?_
  refine play_calldataload (ns := []) (2 ^ 200 + s) 0 iu dd R s1 rfl B.inp B.input (by omega) (by simp) (Nat.zero_le _) (Nat.zero_le _) (by decide) (by decide) fun w2 s2 => ?_
  refine play_push0 (ns := [be (cutB dd (2 ^ 200 + s) 32)]) 0 R s2 rfl (by simp) (Nat.zero_le _) (Nat.zero_le _) (by decide) (by decide) fun w3 s3 => ?_
  refine play_mstore (ns := []) 0 (cutB dd (2 ^ 200 + s) 32) R s3 rfl (by simp) (Nat.zero_le _) (Nat.zero_le _) (cutB_length _ _ _) (cutB_small B.inp.small _ _) (by decide) (by decide) (by decide) fun w4 s4 => ?_
  have e1 : wrB (growB [] (0 + 32)) 0 (cutB dd (2 ^ 200 + s) 32) = cutB dd (2 ^ 200 + s) 32 := wrB_over (by rw [cutB_length]; rfl)
  rw [e1] at s4
  refine play_push1 (ns := []) 32 0 R s4 rfl (be_cut1 rfl) (by simp) (Nat.zero_le _) (Nat.zero_le _) (by decide) (by decide) fun w5 s5 => ?_
  refine play_push0 (ns := [32]) 0 R s5 rfl (by simp) (Nat.zero_le _) (Nat.zero_le _) (by decide) (by decide) fun w6 s6 => ?_
  have hf := play_return (ns := []) 32 0 nilS nilS B R s6 (fun k hk _ _ _ _ => B.cells k hk) rfl rfl B.cap1 rfl (by simp) (Nat.zero_le _) (by decide) (by decide) (by decide) (by decide)
  have e2 : cutB (growB (cutB dd (2 ^ 200 + s) 32) (endN 0 32)) 0 32 = cutB dd (2 ^ 200 + s) 32 := by
    rw [growB_same (W := 1) (cutB_length _ _ _) (by decide)]
    exact cutB_whole (cutB_length _ _ _)
  rw [e2] at hf
  exact hf
theorem run_4 {w0 wB : World} {c fb cap : Nat} {E : CEnv} {cur : Array Value} {dd ds2 : List Nat} {cv iu vv g0 a0 a1 a2 a3 : Value} (N s D : Nat) (B : BegS w0 wB c fb cap E cur dd (preL ++ [96, 128, 95, 95, 55, 96, N, 96, s, 96, D, 94, 96, 128, 95, 243]) ds2 cv iu vv g0 a0 a1 a2 a3) (h : StG 170000 200000 wB c fb E 0 fb 0 1 cap cur 0 [] [] 0 nilS [] la5 wB) (hN : N < 64) (hD : D < 64) (hs : s < 64) (hdl : dd.length ≤ 100) : Play c (fun w2 => EndZ w2 c 0 (wrB (cutB dd 0 128) D (cutB (cutB dd 0 128) s N)) ∧ Kept [c] w0 w2) 27 wB := by
  have R := B.run (Nat.le_of_ble_eq_true rfl)
  have hol : (cutB dd 0 128).length = 128 := cutB_length _ _ _
  have hUb : max (endN D N) (endN s N) ≤ 128 := Nat.max_le.2 ⟨Nat.le_trans (endN_le D N) (by omega), Nat.le_trans (endN_le s N) (by omega)⟩
  have hml : (wrB (cutB dd 0 128) D (cutB (cutB dd 0 128) s N)).length = 128 := by
    rw [wrB_length (by rw [cutB_length, hol]; omega), hol]
  refine play_ones (n := 11) R h (fun j hj => List.getElem?_append_left hj) (by decide) fun w1 s1 => ?_
  refine play_push1 (ns := []) 128 0 R s1 rfl (be_cut1 rfl) (by simp) (Nat.zero_le _) (Nat.zero_le _) (by decide) (by decide) fun w2 s2 => ?_
  refine play_push0 (ns := [128]) 0 R s2 rfl (by simp) (Nat.zero_le _) (Nat.zero_le _) (by decide) (by decide) fun w3 s3 => ?_
  refine play_push0 (ns := [128, 0]) 0 R s3 rfl (by simp) (Nat.zero_le _) (Nat.zero_le _) (by decide) (by decide) fun w4 s4 => ?_
  refine play_calldatacopy (ns := []) 128 0 0 iu dd R s4 rfl (by simp) (Nat.zero_le _) (Nat.zero_le _) (by decide) (by decide) B.inp B.input (by omega) (by decide) (by decide) fun w5 s5 => ?_
  have e1 : wrB (growB (ffs 128) (endN 0 128)) 0 (cutB dd 0 128) = (cutB dd 0 128) := by
    rw [growB_fit (ffs_length 128) (by decide)]
    exact wrB_over (by rw [hol, ffs_length])
  rw [e1, show max 4 (wds (endN 0 128)) = 4 by decide] at s5
  refine play_push1 (ns := []) N 0 R s5 rfl (be_cut1 rfl) (by simp) (Nat.zero_le _) (Nat.zero_le _) (by decide) (by decide) fun w6 s6 => ?_
  refine play_push1 (ns := [N]) s 0 R s6 rfl (be_cut1 rfl) (by simp) (Nat.zero_le _) (Nat.zero_le _) (by decide) (by decide) fun w7 s7 => ?_
  refine play_push1 (ns := [N, s]) D 0 R s7 rfl (be_cut1 rfl) (by simp) (Nat.zero_le _) (Nat.zero_le _) (by decide) (by decide) fun w8 s8 => ?_
  refine play_mcopy (ns := []) N s D R s8 rfl (by simp) (Nat.zero_le _) (Nat.zero_le _) (by omega) (by omega) (by rw [hol]; decide) (by omega) (by decide) (by decide) fun w9 s9 => ?_
  rw [growB_fit hol hUb, show max 4 (wds (max (endN D N) (endN s N))) = 4 by unfold wds; omega] at s9
  refine play_push1 (ns := []) 128 0 R s9 rfl (be_cut1 rfl) (by simp) (Nat.zero_le _) (Nat.zero_le _) (by decide) (by decide) fun w10 s10 => ?_
  refine play_push0 (ns := [128]) 0 R s10 rfl (by simp) (Nat.zero_le _) (Nat.zero_le _) (by decide) (by decide) fun w11 s11 => ?_
  have hf := play_return (ns := []) 128 0 nilS nilS B R s11 (fun k hk _ _ _ _ => B.cells k hk) rfl rfl B.cap1 rfl (by simp) (Nat.zero_le _) (by decide) (by decide) (by decide) (by decide)
  rw [out_whole hml] at hf
  exact hf
end Go.Proofs.YgcsalGreat

/-
  The runs of the programs that copy into memory: data, code, another account's code.
-/
import Derived.Test.YgcsalGreatCp34
set_option linter.unusedSimpArgs false
set_option linter.unusedVariables false
namespace Go.Own
theorem growB_fit {mem : List Nat} {U : Nat} (hl : mem.length = 128) (h : U ≤ 128) : growB mem U = mem := growB_same (W := 4) hl (by unfold wds; omega)
theorem cutB_whole {mem : List Nat} {n : Nat} (hl : mem.length = n) : cutB mem 0 n = mem := by
  subst hl
  exact cutB_self mem
theorem ffs_length (n : Nat) : (ffs n).length = n := by simp [ffs]
theorem out_whole {mem : List Nat} (hl : mem.length = 128) : cutB (growB mem (endN 0 128)) 0 128 = mem := by
  rw [growB_fit hl (by decide)]
  exact cutB_whole hl
end Go.Own
namespace Go.Proofs.YgcsalGreat
open Go.RowKit Go.Own
theorem far_word (s : Nat) : be [0, 0, 0, 0, 0, 0, 1, 0, 0, 0, 0, 0, 0, 0, 0, 0, 0, 0, 0, 0, 0, 0, 0, 0, 0, 0, 0, 0, 0, 0, 0, s] = 2 ^ 200 + s := by
  simp only [be, List.foldl]
theorem run_1 {w0 wB : World} {c fb cap : Nat} {E : CEnv} {cur : Array Value} {dd ds2 : List Nat} {cv iu vv g0 a0 a1 a2 a3 : Value} (N s D : Nat) (B : BegS w0 wB c fb cap E cur dd (preL ++ [96, N, 96, s, 96, D, 55, 96, 128, 95, 243]) ds2 cv iu vv g0 a0 a1 a2 a3) (h : StG 170000 200000 wB c fb E 0 fb 0 1 cap cur 0 [] [] 0 nilS [] la5 wB) (hN : N < 64) (hD : D < 64) (hs : s < 64) (hdl : dd.length ≤ 100) : Play c (fun w2 => EndZ w2 c 0 (wrB (ffs 128) D (cutB dd s N)) ∧ Kept [c] w0 w2) 23 wB := by
  have R := B.run (Nat.le_of_ble_eq_true rfl)
  have hUb : endN D N ≤ 128 := Nat.le_trans (endN_le D N) (by omega)
  have hml : (wrB (ffs 128) D (cutB dd s N)).length = 128 := by
    rw [wrB_length (by rw [cutB_length, ffs_length]; omega), ffs_length]
  refine play_ones (n := 7) R h (fun j hj => List.getElem?_append_left hj) (by decide) fun w1 s1 => ?_
  refine play_push1 N 0 R s1 rfl (be_cut1 rfl) (by simp) (Nat.le_refl _) (Nat.zero_le _) (by decide) (by decide) fun w2 s2 => ?_
  refine play_push1 s 0 R s2 rfl (be_cut1 rfl) (by simp) (Nat.le_refl _) (Nat.zero_le _) (by decide) (by decide) fun w3 s3 => ?_
  refine play_push1 D 0 R s3 rfl (be_cut1 rfl) (by simp) (Nat.le_refl _) (Nat.zero_le _) (by decide) (by decide) fun w4 s4 => ?_
  refine play_calldatacopy (ns := []) N s D iu dd R s4 rfl (by simp) (Nat.zero_le _) (Nat.zero_le _) (by omega) (by omega) B.inp B.input (by omega) (by decide) (by decide) fun w5 s5 => ?_
  rw [growB_fit (ffs_length 128) hUb, show max 4 (wds (endN D N)) = 4 by unfold wds; omega] at s5
  refine play_push1 (ns := []) 128 0 R s5 rfl (be_cut1 rfl) (by simp) (Nat.zero_le _) (Nat.zero_le _) (by decide) (by decide) fun w6 s6 => ?_
  refine play_push0 0 R s6 rfl (by simp) (Nat.le_refl _) (Nat.zero_le _) (by decide) (by decide) fun w7 s7 => ?_
  have hf := play_return (ns := []) 128 0 nilS nilS B R s7 (fun k hk _ _ _ _ => B.cells k hk) rfl rfl B.cap1 rfl (by simp) (Nat.zero_le _) (by decide) (by decide) (by decide) (by decide)
  rw [out_whole hml] at hf
  exact hf
theorem run_1f {w0 wB : World} {c fb cap : Nat} {E : CEnv} {cur : Array Value} {dd ds2 : List Nat} {cv iu vv g0 a0 a1 a2 a3 : Value} (N s D : Nat) (B : BegS w0 wB c fb cap E cur dd (preL ++ [96, N, 127, 0, 0, 0, 0, 0, 0, 1, 0, 0, 0, 0, 0, 0, 0, 0, 0, 0, 0, 0, 0, 0, 0, 0, 0, 0, 0, 0, 0, 0, 0, 0, s, 96, D, 55, 96, 128, 95, 243]) ds2 cv iu vv g0 a0 a1 a2 a3) (h : StG 170000 200000 wB c fb E 0 fb 0 1 cap cur 0 [] [] 0 nilS [] la5 wB) (hN : N < 64) (hD : D < 64) (hs : s < 64) (hdl : dd.length ≤ 100) : Play c (fun w2 => EndZ w2 c 0 (wrB (ffs 128) D (cutB dd (2 ^ 200 + s) N)) ∧ Kept [c] w0 w2) 23 wB := by
  have R := B.run (Nat.le_of_ble_eq_true rfl)
  have hUb : endN D N ≤ 128 := Nat.le_trans (endN_le D N) (by omega)
  have hml : (wrB (ffs 128) D (cutB dd (2 ^ 200 + s) N)).length = 128 := by
    rw [wrB_length (by rw [cutB_length, ffs_length]; omega), ffs_length]
  refine play_ones (n := 7) R h (fun j hj => List.getElem?_append_left hj) (by decide) fun w1 s1 => ?_
  refine play_push1 N 0 R s1 rfl (be_cut1 rfl) (by simp) (Nat.le_refl _) (Nat.zero_le _) (by decide) (by decide) fun w2 s2 => ?_
  refine play_push32 (2 ^ 200 + s) 0 R s2 rfl (far_word s) (by simp) (Nat.le_refl _) (Nat.zero_le _) (by decide) (by decide) fun w3 s3 => ?_
  refine play_push1 D 0 R s3 rfl (be_cut1 rfl) (by simp) (Nat.le_refl _) (Nat.zero_le _) (by decide) (by decide) fun w4 s4 => ?_
  refine play_calldatacopy (ns := []) N (2 ^ 200 + s) D iu dd R s4 rfl (by simp) (Nat.zero_le _) (Nat.zero_le _) (by omega) (by omega) B.inp B.input (by omega) (by decide) (by decide) fun w5 s5 => ?_
  rw [growB_fit (ffs_length 128) hUb, show max 4 (wds (endN D N)) = 4 by unfold wds; omega] at s5
  refine play_push1 (ns := []) 128 0 R s5 rfl (be_cut1 rfl) (by simp) (Nat.zero_le _) (Nat.zero_le _) (by decide) (by decide) fun w6 s6 => ?_
  refine play_push0 0 R s6 rfl (by simp) (Nat.le_refl _) (Nat.zero_le _) (by decide) (by decide) fun w7 s7 => ?_
  have hf := play_return (ns := []) 128 0 nilS nilS B R s7 (fun k hk _ _ _ _ => B.cells k hk) rfl rfl B.cap1 rfl (by simp) (Nat.zero_le _) (by decide) (by decide) (by decide) (by decide)
  rw [out_whole hml] at hf
  exact hf
theorem run_2 {w0 wB : World} {c fb cap : Nat} {E : CEnv} {cur : Array Value} {dd ds2 : List Nat} {cv iu vv g0 a0 a1 a2 a3 : Value} (N s D : Nat) (B : BegS w0 wB c fb cap E cur dd (preL ++ [96, N, 96, s, 96, D, 57, 96, 128, 95, 243]) ds2 cv iu vv g0 a0 a1 a2 a3) (h : StG 170000 200000 wB c fb E 0 fb 0 1 cap cur 0 [] [] 0 nilS [] la5 wB) (hN : N < 64) (hD : D < 64) (hs : s < 64) : Play c (fun w2 => EndZ w2 c 0 (wrB (ffs 128) D (cutB (preL ++ [96, N, 96, s, 96, D, 57, 96, 128, 95, 243]) s N)) ∧ Kept [c] w0 w2) 23 wB := by
  have R := B.run (Nat.le_of_ble_eq_true rfl)
  have hUb : endN D N ≤ 128 := Nat.le_trans (endN_le D N) (by omega)
  have hml : (wrB (ffs 128) D (cutB (preL ++ [96, N, 96, s, 96, D, 57, 96, 128, 95, 243]) s N)).length = 128 := by
    rw [wrB_length (by rw [cutB_length, ffs_length]; omega), ffs_length]
  refine play_ones (n := 7) R h (fun j hj => List.getElem?_append_left hj) (by decide) fun w1 s1 => ?_
  refine play_push1 N 0 R s1 rfl (be_cut1 rfl) (by simp) (Nat.le_refl _) (Nat.zero_le _) (by decide) (by decide) fun w2 s2 => ?_
  refine play_push1 s 0 R s2 rfl (be_cut1 rfl) (by simp) (Nat.le_refl _) (Nat.zero_le _) (by decide) (by decide) fun w3 s3 => ?_
  refine play_push1 D 0 R s3 rfl (be_cut1 rfl) (by simp) (Nat.le_refl _) (Nat.zero_le _) (by decide) (by decide) fun w4 s4 => ?_
  refine play_codecopy (ns := []) N s D R s4 rfl (by simp) (Nat.zero_le _) (Nat.zero_le _) (by omega) (by omega) (by decide) (by decide) fun w5 s5 => ?_
  rw [growB_fit (ffs_length 128) hUb, show max 4 (wds (endN D N)) = 4 by unfold wds; omega] at s5
  refine play_push1 (ns := []) 128 0 R s5 rfl (be_cut1 rfl) (by simp) (Nat.zero_le _) (Nat.zero_le _) (by decide) (by decide) fun w6 s6 => ?_
  refine play_push0 0 R s6 rfl (by simp) (Nat.le_refl _) (Nat.zero_le _) (by decide) (by decide) fun w7 s7 => ?_
  have hf := play_return (ns := []) 128 0 nilS nilS B R s7 (fun k hk _ _ _ _ => B.cells k hk) rfl rfl B.cap1 rfl (by simp) (Nat.zero_le _) (by decide) (by decide) (by decide) (by decide)
  rw [out_whole hml] at hf
  exact hf
theorem run_2f {w0 wB : World} {c fb cap : Nat} {E : CEnv} {cur : Array Value} {dd ds2 : List Nat} {cv iu vv g0 a0 a1 a2 a3 : Value} (N s D : Nat) (B : BegS w0 wB c fb cap E cur dd (preL ++ [96, N, 127, 0, 0, 0, 0, 0, 0, 1, 0, 0, 0, 0, 0, 0, 0, 0, 0, 0, 0, 0, 0, 0, 0, 0, 0, 0, 0, 0, 0, 0, 0, 0, s, 96, D, 57, 96, 128, 95, 243]) ds2 cv iu vv g0 a0 a1 a2 a3) (h : StG 170000 200000 wB c fb E 0 fb 0 1 cap cur 0 [] [] 0 nilS [] la5 wB) (hN : N < 64) (hD : D < 64) (hs : s < 64) : Play c (fun w2 => EndZ w2 c 0 (wrB (ffs 128) D (cutB (preL ++ [96, N, 127, 0, 0, 0, 0, 0, 0, 1, 0, 0, 0, 0, 0, 0, 0, 0, 0, 0, 0, 0, 0, 0, 0, 0, 0, 0, 0, 0, 0, 0, 0, 0, s, 96, D, 57, 96, 128, 95, 243]) (2 ^ 200 + s) N)) ∧ Kept [c] w0 w2) 23 wB := by
  have R := B.run (Nat.le_of_ble_eq_true rfl)
  have hUb : endN D N ≤ 128 := Nat.le_trans (endN_le D N) (by omega)
  have hml : (wrB (ffs 128) D (cutB (preL ++ [96, N, 127, 0, 0, 0, 0, 0, 0, 1, 0, 0, 0, 0, 0, 0, 0, 0, 0, 0, 0, 0, 0, 0, 0, 0, 0, 0, 0, 0, 0, 0, 0, 0, s, 96, D, 57, 96, 128, 95, 243]) (2 ^ 200 + s) N)).length = 128 := by
    rw [wrB_length (by rw [cutB_length, ffs_length]; omega), ffs_length]
  refine play_ones (n := 7) R h (fun j hj => List.getElem?_append_left hj) (by decide) fun w1 s1 => ?_
  refine play_push1 N 0 R s1 rfl (be_cut1 rfl) (by simp) (Nat.le_refl _) (Nat.zero_le _) (by decide) (by decide) fun w2 s2 => ?_
  refine play_push32 (2 ^ 200 + s) 0 R s2 rfl (far_word s) (by simp) (Nat.le_refl _) (Nat.zero_le _) (by decide) (by decide) fun w3 s3 => ?_
  refine play_push1 D 0 R s3 rfl (be_cut1 rfl) (by simp) (Nat.le_refl _) (Nat.zero_le _) (by decide) (by decide) fun w4 s4 => ?_
  refine play_codecopy (ns := []) N (2 ^ 200 + s) D R s4 rfl (by simp) (Nat.zero_le _) (Nat.zero_le _) (by omega) (by omega) (by decide) (by decide) fun w5 s5 => ?_
  rw [growB_fit (ffs_length 128) hUb, show max 4 (wds (endN D N)) = 4 by unfold wds; omega] at s5
  refine play_push1 (ns := []) 128 0 R s5 rfl (be_cut1 rfl) (by simp) (Nat.zero_le _) (Nat.zero_le _) (by decide) (by decide) fun w6 s6 => ?_
  refine play_push0 0 R s6 rfl (by simp) (Nat.le_refl _) (Nat.zero_le _) (by decide) (by decide) fun w7 s7 => ?_
  have hf := play_return (ns := []) 128 0 nilS nilS B R s7 (fun k hk _ _ _ _ => B.cells k hk) rfl rfl B.cap1 rfl (by simp) (Nat.zero_le _) (by decide) (by decide) (by decide) (by decide)
  rw [out_whole hml] at hf
  exact hf
theorem run_3 {w0 wB : World} {c fb cap : Nat} {E : CEnv} {cur : Array Value} {dd ds2 : List Nat} {cv iu vv g0 a0 a1 a2 a3 : Value} (N s D : Nat) (B : BegS w0 wB c fb cap E cur dd (preL ++ [96, N, 96, s, 96, D, 96, 2, 60, 96, 128, 95, 243]) ds2 cv iu vv g0 a0 a1 a2 a3) (h : StG 170000 200000 wB c fb E 0 fb 0 1 cap cur 0 [] [] 0 nilS [] la5 wB) (hN : N < 64) (hD : D < 64) (hs : s < 64) (hl2 : ds2.length ≤ 100) : Play c (fun w2 => EndZ w2 c 0 (wrB (ffs 128) D (cutB ds2 s N)) ∧ Kept [c] w0 w2) 24 wB := by
  have R := B.run (Nat.le_of_ble_eq_true rfl)
  have hUb : endN D N ≤ 128 := Nat.le_trans (endN_le D N) (by omega)
  have hml : (wrB (ffs 128) D (cutB ds2 s N)).length = 128 := by
    rw [wrB_length (by rw [cutB_length, ffs_length]; omega), ffs_length]
  refine play_ones (n := 8) R h (fun j hj => List.getElem?_append_left hj) (by decide) fun w1 s1 => ?_
  refine play_push1 N 0 R s1 rfl (be_cut1 rfl) (by simp) (Nat.le_refl _) (Nat.zero_le _) (by decide) (by decide) fun w2 s2 => ?_
  refine play_push1 s 0 R s2 rfl (be_cut1 rfl) (by simp) (Nat.le_refl _) (Nat.zero_le _) (by decide) (by decide) fun w3 s3 => ?_
  refine play_push1 D 0 R s3 rfl (be_cut1 rfl) (by simp) (Nat.le_refl _) (Nat.zero_le _) (by decide) (by decide) fun w4 s4 => ?_
  refine play_push1 2 0 R s4 rfl (be_cut1 rfl) (by simp) (Nat.le_refl _) (Nat.zero_le _) (by decide) (by decide) fun w4b s4b => ?_
  refine play_extcodecopy (ns := []) N s D _ ds2 R s4b rfl (by simp) (Nat.zero_le _) (Nat.zero_le _) (by omega) (by omega) (by rw [ffs_length]; decide) B.st (by decide) (by decide) (by omega) (by decide) (by decide) fun w5 s5 => ?_
  rw [growB_fit (ffs_length 128) hUb, show max 4 (wds (endN D N)) = 4 by unfold wds; omega] at s5
  refine play_push1 (ns := []) 128 0 R s5 rfl (be_cut1 rfl) (by simp) (Nat.zero_le _) (Nat.zero_le _) (by decide) (by decide) fun w6 s6 => ?_
  refine play_push0 0 R s6 rfl (by simp) (Nat.le_refl _) (Nat.zero_le _) (by decide) (by decide) fun w7 s7 => ?_
  have hf := play_return (ns := []) 128 0 nilS nilS B R s7 (fun k hk _ _ _ _ => B.cells k hk) rfl rfl B.cap1 rfl (by simp) (Nat.zero_le _) (by decide) (by decide) (by decide) (by decide)
  rw [out_whole hml] at hf
  exact hf
theorem run_3f {w0 wB : World} {c fb cap : Nat} {E : CEnv} {cur : Array Value} {dd ds2 : List Nat} {cv iu vv g0 a0 a1 a2 a3 : Value} (N s D : Nat) (B : BegS w0 wB c fb cap E cur dd (preL ++ [96, N, 127, 0, 0, 0, 0, 0, 0, 1, 0, 0, 0, 0, 0, 0, 0, 0, 0, 0, 0, 0, 0, 0, 0, 0, 0, 0, 0, 0, 0, 0, 0, 0, s, 96, D, 96, 2, 60, 96, 128, 95, 243]) ds2 cv iu vv g0 a0 a1 a2 a3) (h : StG 170000 200000 wB c fb E 0 fb 0 1 cap cur 0 [] [] 0 nilS [] la5 wB) (hN : N < 64) (hD : D < 64) (hs : s < 64) (hl2 : ds2.length ≤ 100) : Play c (fun w2 => EndZ w2 c 0 (wrB (ffs 128) D (cutB ds2 (2 ^ 200 + s) N)) ∧ Kept [c] w0 w2) 24 wB := by
  have R := B.run (Nat.le_of_ble_eq_true rfl)
  have hUb : endN D N ≤ 128 := Nat.le_trans (endN_le D N) (by omega)
  have hml : (wrB (ffs 128) D (cutB ds2 (2 ^ 200 + s) N)).length = 128 := by
    rw [wrB_length (by rw [cutB_length, ffs_length]; omega), ffs_length]
  refine play_ones (n := 8) R h (fun j hj => List.getElem?_append_left hj) (by decide) fun w1 s1 => ?_
  refine play_push1 N 0 R s1 rfl (be_cut1 rfl) (by simp) (Nat.le_refl _) (Nat.zero_le _) (by decide) (by decide) fun w2 s2 => ?_
  refine play_push32 (2 ^ 200 + s) 0 R s2 rfl (far_word s) (by simp) (Nat.le_refl _) (Nat.zero_le _) (by decide) (by decide) fun w3 s3 => ?_
  refine play_push1 D 0 R s3 rfl (be_cut1 rfl) (by simp) (Nat.le_refl _) (Nat.zero_le _) (by decide) (by decide) fun w4 s4 => ?_
  refine play_push1 2 0 R s4 rfl (be_cut1 rfl) (by simp) (Nat.le_refl _) (Nat.zero_le _) (by decide) (by decide) fun w4b s4b => ?_
  refine play_extcodecopy (ns := []) N (2 ^ 200 + s) D _ ds2 R s4b rfl (by simp) (Nat.zero_le _) (Nat.zero_le _) (by omega) (by omega) (by rw [ffs_length]; decide) B.st (by decide) (by decide) (by omega) (by decide) (by decide) fun w5 s5 => ?_
  rw [growB_fit (ffs_length 128) hUb, show max 4 (wds (endN D N)) = 4 by unfold wds; omega] at s5
  refine play_push1 (ns := []) 128 0 R s5 rfl (be_cut1 rfl) (by simp) (Nat.zero_le _) (Nat.zero_le _) (by decide) (by decide) fun w6 s6 => ?_
  refine play_push0 0 R s6 rfl (by simp) (Nat.le_refl _) (Nat.zero_le _) (by decide) (by decide) fun w7 s7 => ?_
  have hf := play_return (ns := []) 128 0 nilS nilS B R s7 (fun k hk _ _ _ _ => B.cells k hk) rfl rfl B.cap1 rfl (by simp) (Nat.zero_le _) (by decide) (by decide) (by decide) (by decide)
  rw [out_whole hml] at hf
  exact hf
end Go.Proofs.YgcsalGreat

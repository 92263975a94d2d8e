/-
  The runs of the programs that call the echo.
-/
import Derived.Test.YgcsalGreatCp36
set_option linter.unusedSimpArgs false
set_option linter.unusedVariables false
namespace Go.Own
theorem mem_call (dd : List Nat) (U : Nat) : ∃ x, growB (wrB (growB (ffs 128) (endN 128 dd.length)) 128 (cutB dd 0 dd.length)) U = ffs 128 ++ (dd ++ x) := by
  rw [cutB_self]
  unfold wrB growB
  rw [List.take_left' (ffs_length 128)]
  simp only [List.append_assoc]
  exact ⟨_, rfl⟩
theorem cut_call (dd x : List Nat) : cutB (ffs 128 ++ (dd ++ x)) 128 dd.length = dd := by
  unfold cutB
  rw [List.drop_left' (ffs_length 128)]
  have h : dd.length - ((ffs 128 ++ (dd ++ x)).length - 128) = 0 := by simp [ffs_length]
  rw [h, List.take_left' rfl]
  simp
theorem wrB_left {a x bs : List Nat} {D : Nat} (h : D + bs.length ≤ a.length) : wrB (a ++ x) D bs = wrB a D bs ++ x := by
  unfold wrB
  rw [List.take_append_of_le_length (by omega), List.drop_append_of_le_length h]
  simp
theorem cut_left {a x : List Nat} (U : Nat) (h : a.length = 128) : cutB (growB (a ++ x) U) 0 128 = a := by
  unfold growB
  rw [List.append_assoc, ← h]
  exact cutB_pre _ _
theorem frO_set (g0 vv cv iu r6 r7 a0 a1 a2 a3 : Value) : frO g0 vv cv iu r6 r7 (wrow4 a0 a1 a2 a3) = ((frO g0 vv cv iu nilS nilS (wrow4 a0 a1 a2 a3)).set 6 r6).set 7 r7 := by kernel_rfl
theorem frO_len (g0 vv cv iu r6 r7 a0 a1 a2 a3 : Value) : (frO g0 vv cv iu r6 r7 (wrow4 a0 a1 a2 a3)).length = 60 := by kernel_rfl
/-- Back from the callee: the outer frame's row. -/
theorem BegS.back {w0 wB wC : World} {c fb cap : Nat} {E : CEnv} {cur : Array Value} {dd ds1 ds2 : List Nat} {cv iu vv g0 a0 a1 a2 a3 : Value} (B : BegS w0 wB c fb cap E cur dd ds1 ds2 cv iu vv g0 a0 a1 a2 a3) {fb' cap' : Nat} {cur' fs1 : Array Value} {mb W1 : Nat} {mem1 : List Nat} {pv gv sv r6 r7 cw sg vn iu' b0 b1 b2 b3 : Value} {m1 G1 G2 OA ON : Nat} {dd' : List Nat} {la : List (List Nat)} (hC : CallS wB c fb E fb' cap' cur' cur mb W1 mem1 pv gv sv r6 r7 cw sg vn iu' b0 b1 b2 b3 m1 G1 G2 OA ON dd' ds1 ds2 la wC) (h1 : ∀ k, k < 60 → fs1[k]? = cur'[k]?) (h2 : fs1.size = cur'.size) (hl : ds1.length ≤ 1000) : RunE wB c fb 0 cv ds1 fs1 ∧ ∀ k, k < 60 → k ≠ 3 → k ≠ 4 → k ≠ 8 → k ≠ 9 → fs1[k]? = (frO g0 vv cv iu r6 r7 (wrow4 a0 a1 a2 a3))[k]? := by
  have key : ∀ k, k < 60 → k ≠ 3 → k ≠ 4 → k ≠ 8 → k ≠ 9 → fs1[k]? = (frO g0 vv cv iu r6 r7 (wrow4 a0 a1 a2 a3))[k]? := by
    intro k hk k3 k4 k8 k9
    rw [h1 k hk, frO_set]
    by_cases e7 : k = 7
    · subst e7
      rw [List.getElem?_set_self (by rw [List.length_set, frO_len]; decide), hC.c7]
    rw [List.getElem?_set_ne (by omega)]
    by_cases e6 : k = 6
    · subst e6
      rw [List.getElem?_set_self (by rw [frO_len]; decide), hC.c6]
    rw [List.getElem?_set_ne (by omega), hC.same k hk k3 k4 e6 e7 k8 k9]
    exact B.cells k hk
  refine ⟨⟨B.hard, B.code, ⟨?_, ?_, ?_, ?_⟩, hl⟩, key⟩
  · exact key 1 (by decide) (by decide) (by decide) (by decide) (by decide)
  · exact key 2 (by decide) (by decide) (by decide) (by decide) (by decide)
  · exact key 10 (by decide) (by decide) (by decide) (by decide) (by decide)
  · rw [h2, hC.size]
    have := hC.cap2
    omega
end Go.Own
namespace Go.Proofs.YgcsalGreat
open Go.RowKit Go.Own
theorem run_5 {w0 wB : World} {c fb cap : Nat} {E : CEnv} {cur : Array Value} {dd : List Nat} {cv iu vv g0 a0 a1 a2 a3 : Value} (N s D : Nat) (B : BegS w0 wB c fb cap E cur dd (preL ++ [54, 95, 96, 128, 55, 95, 95, 96, dd.length, 96, 128, 95, 96, 2, 90, 241, 96, N, 96, s, 96, D, 62, 96, 128, 95, 243]) [54, 95, 95, 55, 54, 95, 243] cv iu vv g0 a0 a1 a2 a3) (h : StG 170000 200000 wB c fb E 0 fb 0 1 cap cur 0 [] [] 0 nilS [] la5 wB) (hN : N < 64) (hD : D < 64) (hs : s < 64) (hdl : dd.length ≤ 96) (hb : s + N ≤ dd.length) : Play c (fun w2 => EndZ w2 c 0 (wrB (ffs 128) D (cutB dd s N)) ∧ Kept [c] w0 w2) 42 wB := by
  have R := B.run (Nat.le_of_ble_eq_true rfl)
  obtain ⟨sp, sq, hiu⟩ : ∃ sp sq, iu = .slice sp dd.length sq := by
    obtain ⟨p, cc, e, _⟩ := B.inp
    exact ⟨p, cc, e⟩
  have h11 : cur[0 + 11]? = some (.slice sp dd.length sq) := by rw [B.input, hiu]
  refine play_ones (n := 26) R h (fun j hj => List.getElem?_append_left hj) (by decide) fun w1 s1 => ?_
  refine play_calldatasize (ns := []) dd.length 0 sp sq R s1 rfl h11 (by omega) (by simp) (Nat.zero_le _) (Nat.zero_le _) (by decide) (by decide) fun w2 s2 => ?_
  refine play_push0 (ns := [dd.length]) 0 R s2 rfl (by simp) (Nat.zero_le _) (Nat.zero_le _) (by decide) (by decide) fun w3 s3 => ?_
  refine play_push1 (ns := [dd.length, 0]) 128 0 R s3 rfl (be_cut1 rfl) (by simp) (Nat.zero_le _) (Nat.zero_le _) (by decide) (by decide) fun w4 s4 => ?_
  refine play_calldatacopy (ns := []) dd.length 0 128 iu dd R s4 rfl (by simp) (Nat.zero_le _) (Nat.zero_le _) (by decide) (by omega) B.inp B.input (by omega) (by decide) (by decide) fun w5 s5 => ?_
  refine play_push0 (ns := []) 0 R s5 rfl (by simp) (Nat.zero_le _) (Nat.zero_le _) (by decide) (by decide) fun w6 s6 => ?_
  refine play_push0 (ns := [0]) 0 R s6 rfl (by simp) (Nat.zero_le _) (Nat.zero_le _) (by decide) (by decide) fun w7 s7 => ?_
  refine play_push1 (ns := [0, 0]) dd.length 0 R s7 rfl (be_cut1 rfl) (by simp) (Nat.zero_le _) (Nat.zero_le _) (by decide) (by decide) fun w8 s8 => ?_
  refine play_push1 (ns := [0, 0, dd.length]) 128 0 R s8 rfl (be_cut1 rfl) (by simp) (Nat.zero_le _) (Nat.zero_le _) (by decide) (by decide) fun w9 s9 => ?_
  refine play_push0 (ns := [0, 0, dd.length, 128]) 0 R s9 rfl (by simp) (Nat.zero_le _) (Nat.zero_le _) (by decide) (by decide) fun w10 s10 => ?_
  refine play_push1 (ns := [0, 0, dd.length, 128, 0]) 2 0 R s10 rfl (be_cut1 rfl) (by simp) (Nat.zero_le _) (Nat.zero_le _) (by decide) (by decide) fun w11 s11 => ?_
  obtain ⟨x, hx⟩ := mem_call dd (max (endN 128 dd.length) (endN 0 0))
  have hw5 : 0 < (wrB (growB (ffs 128) (endN 128 dd.length)) 128 (cutB dd 0 dd.length)).length := by
    rw [cutB_self]
    unfold wrB growB
    rw [List.take_left' (ffs_length 128)]
    simp [ffs_length]
    omega
  refine play_call (rr := 0) (n := 14) 0 0 dd.length 128 B R s11 rfl rfl (by decide) (by omega) (by decide) (by decide) hw5 (by decide) (by decide) (by decide) (by decide) B.self B.size B.capM B.cap1 (by decide) (by decide) ?_
  intro w12 fb' cap' cur' mb G1 G2 pv gv sv r6 r7 cw sg vn iu' b0 b1 b2 b3 g1 g2 g3 hC
  rw [hx, cut_call] at hC
  have hfit : outAt 0 0 + min 0 dd.length ≤ (ffs 128 ++ (dd ++ x)).length := by
    rw [List.length_append, ffs_length]
    unfold outAt
    split <;> omega
  refine play_echo (n := 7) hC (by omega) (by decide) hfit (by decide) g1 g2 g3 fun w13 fs1 rt' s13 x2 x3 => ?_
  obtain ⟨R1, hcells⟩ := B.back hC x2 x3 (Nat.le_of_ble_eq_true rfl)
  have o6 := hC.n6.one
  have o7 := hC.n7.one
  rw [show min 0 dd.length = 0 by omega, List.take_zero, wrB_nil] at s13
  refine play_push1 (ns := [1]) N 1 R1 s13 rfl (be_cut1 rfl) (by simp) (Nat.le_refl _) (by simp) (by decide) (by decide) fun w14 s14 => ?_
  refine play_push1 (ns := [1, N]) s 1 R1 s14 rfl (be_cut1 rfl) (by simp) (Nat.le_refl _) (by simp) (by decide) (by decide) fun w15 s15 => ?_
  refine play_push1 (ns := [1, N, s]) D 1 R1 s15 rfl (be_cut1 rfl) (by simp) (Nat.le_refl _) (by simp) (by decide) (by decide) fun w16 s16 => ?_
  refine play_returndatacopy (ns := [1]) N s D R1 s16 rfl (by simp) (Nat.le_refl _) (by simp) (by omega) (by omega) (by rw [List.length_append, ffs_length]; omega) hb (by omega) (by decide) (by decide) fun w17 s17 => ?_
  refine play_push1 (ns := [1]) 128 0 R1 s17 rfl (be_cut1 rfl) (by simp) (Nat.zero_le _) (Nat.zero_le _) (by decide) (by decide) fun w18 s18 => ?_
  refine play_push0 (ns := [1, 128]) 0 R1 s18 rfl (by simp) (Nat.zero_le _) (Nat.zero_le _) (by decide) (by decide) fun w19 s19 => ?_
  have hf := play_return (ns := [1]) 128 0 r6 r7 B R1 s19 hcells o6 o7 (by decide) rfl (by simp) (Nat.zero_le _) (by decide) (by decide) (by decide) (by decide)
  have e3 : ∃ y, growB (ffs 128 ++ (dd ++ x)) (endN D N) = ffs 128 ++ y := by
    unfold growB
    rw [List.append_assoc]
    exact ⟨_, rfl⟩
  obtain ⟨y, hy⟩ := e3
  rw [hy, wrB_left (by rw [cutB_length, ffs_length]; omega), cut_left _ (by rw [wrB_length (by rw [cutB_length, ffs_length]; omega), ffs_length])] at hf
  exact hf
theorem run_5_no {w0 wB : World} {c fb cap : Nat} {E : CEnv} {cur : Array Value} {dd : List Nat} {cv iu vv g0 a0 a1 a2 a3 : Value} (N s D : Nat) (B : BegS w0 wB c fb cap E cur dd (preL ++ [54, 95, 96, 128, 55, 95, 95, 96, dd.length, 96, 128, 95, 96, 2, 90, 241, 96, N, 96, s, 96, D, 62, 96, 128, 95, 243]) [54, 95, 95, 55, 54, 95, 243] cv iu vv g0 a0 a1 a2 a3) (h : StG 170000 200000 wB c fb E 0 fb 0 1 cap cur 0 [] [] 0 nilS [] la5 wB) (hN : N < 64) (hD : D < 64) (hs : s < 64) (hdl : dd.length ≤ 96) (hb : dd.length < s + N) : Play c (fun w2 => EndZ w2 c 8 [] ∧ Kept [c] w0 w2) 39 wB := by
  have R := B.run (Nat.le_of_ble_eq_true rfl)
  obtain ⟨sp, sq, hiu⟩ : ∃ sp sq, iu = .slice sp dd.length sq := by
    obtain ⟨p, cc, e, _⟩ := B.inp
    exact ⟨p, cc, e⟩
  have h11 : cur[0 + 11]? = some (.slice sp dd.length sq) := by rw [B.input, hiu]
  refine play_ones (n := 23) R h (fun j hj => List.getElem?_append_left hj) (by decide) fun w1 s1 => ?_
  refine play_calldatasize (ns := []) dd.length 0 sp sq R s1 rfl h11 (by omega) (by simp) (Nat.zero_le _) (Nat.zero_le _) (by decide) (by decide) fun w2 s2 => ?_
  refine play_push0 (ns := [dd.length]) 0 R s2 rfl (by simp) (Nat.zero_le _) (Nat.zero_le _) (by decide) (by decide) fun w3 s3 => ?_
  refine play_push1 (ns := [dd.length, 0]) 128 0 R s3 rfl (be_cut1 rfl) (by simp) (Nat.zero_le _) (Nat.zero_le _) (by decide) (by decide) fun w4 s4 => ?_
  refine play_calldatacopy (ns := []) dd.length 0 128 iu dd R s4 rfl (by simp) (Nat.zero_le _) (Nat.zero_le _) (by decide) (by omega) B.inp B.input (by omega) (by decide) (by decide) fun w5 s5 => ?_
  refine play_push0 (ns := []) 0 R s5 rfl (by simp) (Nat.zero_le _) (Nat.zero_le _) (by decide) (by decide) fun w6 s6 => ?_
  refine play_push0 (ns := [0]) 0 R s6 rfl (by simp) (Nat.zero_le _) (Nat.zero_le _) (by decide) (by decide) fun w7 s7 => ?_
  refine play_push1 (ns := [0, 0]) dd.length 0 R s7 rfl (be_cut1 rfl) (by simp) (Nat.zero_le _) (Nat.zero_le _) (by decide) (by decide) fun w8 s8 => ?_
  refine play_push1 (ns := [0, 0, dd.length]) 128 0 R s8 rfl (be_cut1 rfl) (by simp) (Nat.zero_le _) (Nat.zero_le _) (by decide) (by decide) fun w9 s9 => ?_
  refine play_push0 (ns := [0, 0, dd.length, 128]) 0 R s9 rfl (by simp) (Nat.zero_le _) (Nat.zero_le _) (by decide) (by decide) fun w10 s10 => ?_
  refine play_push1 (ns := [0, 0, dd.length, 128, 0]) 2 0 R s10 rfl (be_cut1 rfl) (by simp) (Nat.zero_le _) (Nat.zero_le _) (by decide) (by decide) fun w11 s11 => ?_
  obtain ⟨x, hx⟩ := mem_call dd (max (endN 128 dd.length) (endN 0 0))
  have hw5 : 0 < (wrB (growB (ffs 128) (endN 128 dd.length)) 128 (cutB dd 0 dd.length)).length := by
    rw [cutB_self]
    unfold wrB growB
    rw [List.take_left' (ffs_length 128)]
    simp [ffs_length]
    omega
  refine play_call (rr := 0) (n := 11) 0 0 dd.length 128 B R s11 rfl rfl (by decide) (by omega) (by decide) (by decide) hw5 (by decide) (by decide) (by decide) (by decide) B.self B.size B.capM B.cap1 (by decide) (by decide) ?_
  intro w12 fb' cap' cur' mb G1 G2 pv gv sv r6 r7 cw sg vn iu' b0 b1 b2 b3 g1 g2 g3 hC
  rw [hx, cut_call] at hC
  have hfit : outAt 0 0 + min 0 dd.length ≤ (ffs 128 ++ (dd ++ x)).length := by
    rw [List.length_append, ffs_length]
    unfold outAt
    split <;> omega
  refine play_echo (n := 4) hC (by omega) (by decide) hfit (by decide) g1 g2 g3 fun w13 fs1 rt' s13 x2 x3 => ?_
  obtain ⟨R1, hcells⟩ := B.back hC x2 x3 (Nat.le_of_ble_eq_true rfl)
  have o6 := hC.n6.one
  have o7 := hC.n7.one
  rw [show min 0 dd.length = 0 by omega, List.take_zero, wrB_nil] at s13
  refine play_push1 (ns := [1]) N 1 R1 s13 rfl (be_cut1 rfl) (by simp) (Nat.le_refl _) (by simp) (by decide) (by decide) fun w14 s14 => ?_
  refine play_push1 (ns := [1, N]) s 1 R1 s14 rfl (be_cut1 rfl) (by simp) (Nat.le_refl _) (by simp) (by decide) (by decide) fun w15 s15 => ?_
  refine play_push1 (ns := [1, N, s]) D 1 R1 s15 rfl (be_cut1 rfl) (by simp) (Nat.le_refl _) (by simp) (by decide) (by decide) fun w16 s16 => ?_
  exact play_bounds (ns := [1]) N s D r6 r7 B R1 s16 hcells o6 o7 (by decide) rfl (by simp) (by omega) (by omega) hb (by omega) (by decide)
theorem run_5f_no {w0 wB : World} {c fb cap : Nat} {E : CEnv} {cur : Array Value} {dd : List Nat} {cv iu vv g0 a0 a1 a2 a3 : Value} (N s D : Nat) (B : BegS w0 wB c fb cap E cur dd (preL ++ [54, 95, 96, 128, 55, 95, 95, 96, dd.length, 96, 128, 95, 96, 2, 90, 241, 96, N, 127, 0, 0, 0, 0, 0, 0, 1, 0, 0, 0, 0, 0, 0, 0, 0, 0, 0, 0, 0, 0, 0, 0, 0, 0, 0, 0, 0, 0, 0, 0, 0, s, 96, D, 62, 96, 128, 95, 243]) [54, 95, 95, 55, 54, 95, 243] cv iu vv g0 a0 a1 a2 a3) (h : StG 170000 200000 wB c fb E 0 fb 0 1 cap cur 0 [] [] 0 nilS [] la5 wB) (hN : N < 64) (hD : D < 64) (hs : s < 64) (hdl : dd.length ≤ 96) : Play c (fun w2 => EndZ w2 c 8 [] ∧ Kept [c] w0 w2) 39 wB := by
  have R := B.run (Nat.le_of_ble_eq_true rfl)
  obtain ⟨sp, sq, hiu⟩ : ∃ sp sq, iu = .slice sp dd.length sq := by
    obtain ⟨p, cc, e, _⟩ := B.inp
    exact ⟨p, cc, e⟩
  have h11 : cur[0 + 11]? = some (.slice sp dd.length sq) := by rw [B.input, hiu]
  refine play_ones (n := 23) R h (fun j hj => List.getElem?_append_left hj) (by decide) fun w1 s1 => ?_
  refine play_calldatasize (ns := []) dd.length 0 sp sq R s1 rfl h11 (by omega) (by simp) (Nat.zero_le _) (Nat.zero_le _) (by decide) (by decide) fun w2 s2 => ?_
  refine play_push0 (ns := [dd.length]) 0 R s2 rfl (by simp) (Nat.zero_le _) (Nat.zero_le _) (by decide) (by decide) fun w3 s3 => ?_
  refine play_push1 (ns := [dd.length, 0]) 128 0 R s3 rfl (be_cut1 rfl) (by simp) (Nat.zero_le _) (Nat.zero_le _) (by decide) (by decide) fun w4 s4 => ?_
  refine play_calldatacopy (ns := []) dd.length 0 128 iu dd R s4 rfl (by simp) (Nat.zero_le _) (Nat.zero_le _) (by decide) (by omega) B.inp B.input (by omega) (by decide) (by decide) fun w5 s5 => ?_
  refine play_push0 (ns := []) 0 R s5 rfl (by simp) (Nat.zero_le _) (Nat.zero_le _) (by decide) (by decide) fun w6 s6 => ?_
  refine play_push0 (ns := [0]) 0 R s6 rfl (by simp) (Nat.zero_le _) (Nat.zero_le _) (by decide) (by decide) fun w7 s7 => ?_
  refine play_push1 (ns := [0, 0]) dd.length 0 R s7 rfl (be_cut1 rfl) (by simp) (Nat.zero_le _) (Nat.zero_le _) (by decide) (by decide) fun w8 s8 => ?_
  refine play_push1 (ns := [0, 0, dd.length]) 128 0 R s8 rfl (be_cut1 rfl) (by simp) (Nat.zero_le _) (Nat.zero_le _) (by decide) (by decide) fun w9 s9 => ?_
  refine play_push0 (ns := [0, 0, dd.length, 128]) 0 R s9 rfl (by simp) (Nat.zero_le _) (Nat.zero_le _) (by decide) (by decide) fun w10 s10 => ?_
  refine play_push1 (ns := [0, 0, dd.length, 128, 0]) 2 0 R s10 rfl (be_cut1 rfl) (by simp) (Nat.zero_le _) (Nat.zero_le _) (by decide) (by decide) fun w11 s11 => ?_
  obtain ⟨x, hx⟩ := mem_call dd (max (endN 128 dd.length) (endN 0 0))
  have hw5 : 0 < (wrB (growB (ffs 128) (endN 128 dd.length)) 128 (cutB dd 0 dd.length)).length := by
    rw [cutB_self]
    unfold wrB growB
    rw [List.take_left' (ffs_length 128)]
    simp [ffs_length]
    omega
  refine play_call (rr := 0) (n := 11) 0 0 dd.length 128 B R s11 rfl rfl (by decide) (by omega) (by decide) (by decide) hw5 (by decide) (by decide) (by decide) (by decide) B.self B.size B.capM B.cap1 (by decide) (by decide) ?_
  intro w12 fb' cap' cur' mb G1 G2 pv gv sv r6 r7 cw sg vn iu' b0 b1 b2 b3 g1 g2 g3 hC
  rw [hx, cut_call] at hC
  have hfit : outAt 0 0 + min 0 dd.length ≤ (ffs 128 ++ (dd ++ x)).length := by
    rw [List.length_append, ffs_length]
    unfold outAt
    split <;> omega
  refine play_echo (n := 4) hC (by omega) (by decide) hfit (by decide) g1 g2 g3 fun w13 fs1 rt' s13 x2 x3 => ?_
  obtain ⟨R1, hcells⟩ := B.back hC x2 x3 (Nat.le_of_ble_eq_true rfl)
  have o6 := hC.n6.one
  have o7 := hC.n7.one
  rw [show min 0 dd.length = 0 by omega, List.take_zero, wrB_nil] at s13
  refine play_push1 (ns := [1]) N 1 R1 s13 rfl (be_cut1 rfl) (by simp) (Nat.le_refl _) (by simp) (by decide) (by decide) fun w14 s14 => ?_
  refine play_push32 (ns := [1, N]) (2 ^ 200 + s) 1 R1 s14 rfl (far_word s) (by simp) (Nat.le_refl _) (by simp) (by decide) (by decide) fun w15 s15 => ?_
  refine play_push1 (ns := [1, N, (2 ^ 200 + s)]) D 1 R1 s15 rfl (be_cut1 rfl) (by simp) (Nat.le_refl _) (by simp) (by decide) (by decide) fun w16 s16 => ?_
  exact play_bounds (ns := [1]) N (2 ^ 200 + s) D r6 r7 B R1 s16 hcells o6 o7 (by decide) rfl (by simp) (by have : (2 : Nat) ^ 200 + 64 < 256 ^ 200 := (by decide); omega) (by omega) (by have h9 : (96 : Nat) < 2 ^ 200 := (by decide); omega) (by omega) (by decide)
theorem run_6 {w0 wB : World} {c fb cap : Nat} {E : CEnv} {cur : Array Value} {dd : List Nat} {cv iu vv g0 a0 a1 a2 a3 : Value} (N s D : Nat) (B : BegS w0 wB c fb cap E cur dd (preL ++ [54, 95, 96, 128, 55, 96, N, 96, D, 96, dd.length, 96, 128, 95, 96, 2, 90, 241, 96, 128, 95, 243]) [54, 95, 95, 55, 54, 95, 243] cv iu vv g0 a0 a1 a2 a3) (h : StG 170000 200000 wB c fb E 0 fb 0 1 cap cur 0 [] [] 0 nilS [] la5 wB) (hN : N < 64) (hD : D < 64) (hs : s < 64) (hdl : dd.length ≤ 96) : Play c (fun w2 => EndZ w2 c 0 (wrB (ffs 128) D (dd.take (min N dd.length))) ∧ Kept [c] w0 w2) 38 wB := by
  have R := B.run (Nat.le_of_ble_eq_true rfl)
  obtain ⟨sp, sq, hiu⟩ : ∃ sp sq, iu = .slice sp dd.length sq := by
    obtain ⟨p, cc, e, _⟩ := B.inp
    exact ⟨p, cc, e⟩
  have h11 : cur[0 + 11]? = some (.slice sp dd.length sq) := by rw [B.input, hiu]
  refine play_ones (n := 22) R h (fun j hj => List.getElem?_append_left hj) (by decide) fun w1 s1 => ?_
  refine play_calldatasize (ns := []) dd.length 0 sp sq R s1 rfl h11 (by omega) (by simp) (Nat.zero_le _) (Nat.zero_le _) (by decide) (by decide) fun w2 s2 => ?_
  refine play_push0 (ns := [dd.length]) 0 R s2 rfl (by simp) (Nat.zero_le _) (Nat.zero_le _) (by decide) (by decide) fun w3 s3 => ?_
  refine play_push1 (ns := [dd.length, 0]) 128 0 R s3 rfl (be_cut1 rfl) (by simp) (Nat.zero_le _) (Nat.zero_le _) (by decide) (by decide) fun w4 s4 => ?_
  refine play_calldatacopy (ns := []) dd.length 0 128 iu dd R s4 rfl (by simp) (Nat.zero_le _) (Nat.zero_le _) (by decide) (by omega) B.inp B.input (by omega) (by decide) (by decide) fun w5 s5 => ?_
  refine play_push1 (ns := []) N 0 R s5 rfl (be_cut1 rfl) (by simp) (Nat.zero_le _) (Nat.zero_le _) (by decide) (by decide) fun w6 s6 => ?_
  refine play_push1 (ns := [N]) D 0 R s6 rfl (be_cut1 rfl) (by simp) (Nat.zero_le _) (Nat.zero_le _) (by decide) (by decide) fun w7 s7 => ?_
  refine play_push1 (ns := [N, D]) dd.length 0 R s7 rfl (be_cut1 rfl) (by simp) (Nat.zero_le _) (Nat.zero_le _) (by decide) (by decide) fun w8 s8 => ?_
  refine play_push1 (ns := [N, D, dd.length]) 128 0 R s8 rfl (be_cut1 rfl) (by simp) (Nat.zero_le _) (Nat.zero_le _) (by decide) (by decide) fun w9 s9 => ?_
  refine play_push0 (ns := [N, D, dd.length, 128]) 0 R s9 rfl (by simp) (Nat.zero_le _) (Nat.zero_le _) (by decide) (by decide) fun w10 s10 => ?_
  refine play_push1 (ns := [N, D, dd.length, 128, 0]) 2 0 R s10 rfl (be_cut1 rfl) (by simp) (Nat.zero_le _) (Nat.zero_le _) (by decide) (by decide) fun w11 s11 => ?_
  obtain ⟨x, hx⟩ := mem_call dd (max (endN 128 dd.length) (endN D N))
  have hw5 : 0 < (wrB (growB (ffs 128) (endN 128 dd.length)) 128 (cutB dd 0 dd.length)).length := by
    rw [cutB_self]
    unfold wrB growB
    rw [List.take_left' (ffs_length 128)]
    simp [ffs_length]
    omega
  refine play_call (rr := 0) (n := 10) N D dd.length 128 B R s11 rfl rfl (by decide) (by omega) (by omega) (by omega) hw5 (by decide) (by decide) (by decide) (by decide) B.self B.size B.capM B.cap1 (by decide) (by decide) ?_
  intro w12 fb' cap' cur' mb G1 G2 pv gv sv r6 r7 cw sg vn iu' b0 b1 b2 b3 g1 g2 g3 hC
  rw [hx, cut_call] at hC
  have hfit : outAt N D + min N dd.length ≤ (ffs 128 ++ (dd ++ x)).length := by
    rw [List.length_append, ffs_length]
    unfold outAt
    split <;> omega
  refine play_echo (n := 3) hC (by omega) (by omega) hfit (by decide) g1 g2 g3 fun w13 fs1 rt' s13 x2 x3 => ?_
  obtain ⟨R1, hcells⟩ := B.back hC x2 x3 (Nat.le_of_ble_eq_true rfl)
  have o6 := hC.n6.one
  have o7 := hC.n7.one
  refine play_push1 (ns := [1]) 128 0 R1 s13 rfl (be_cut1 rfl) (by simp) (Nat.zero_le _) (Nat.zero_le _) (by decide) (by decide) fun w14 s14 => ?_
  refine play_push0 (ns := [1, 128]) 0 R1 s14 rfl (by simp) (Nat.zero_le _) (Nat.zero_le _) (by decide) (by decide) fun w15 s15 => ?_
  have hf := play_return (ns := [1]) 128 0 r6 r7 B R1 s15 hcells o6 o7 (by decide) rfl (by simp) (Nat.zero_le _) (by decide) (by decide) (by decide) (by decide)
  have e4 : wrB (ffs 128 ++ (dd ++ x)) (outAt N D) (dd.take (min N dd.length)) = wrB (ffs 128) D (dd.take (min N dd.length)) ++ (dd ++ x) := by
    by_cases h0 : N = 0
    · subst h0
      rw [show min 0 dd.length = 0 by omega, List.take_zero, wrB_nil, wrB_nil]
    · rw [outAt, if_neg h0]
      exact wrB_left (by rw [List.length_take, ffs_length]; omega)
  rw [e4, cut_left _ (by rw [wrB_length (by rw [List.length_take, ffs_length]; omega), ffs_length])] at hf
  exact hf
end Go.Proofs.YgcsalGreat

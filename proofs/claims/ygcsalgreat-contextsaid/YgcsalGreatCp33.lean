/-
  The run that lays ff in the first 128 bytes of the memory.
-/
import Derived.Test.YgcsalGreatCp32
set_option linter.unusedSimpArgs false
set_option linter.unusedVariables false
namespace Go.Own
theorem be_cut1 {ds : List Nat} {m V : Nat} (h : ds[m]? = some V) : be (cutB ds m 1) = V := by
  obtain ⟨h1, h2⟩ := List.getElem?_eq_some_iff.1 h
  have e : ds.drop m = V :: ds.drop (m + 1) := by rw [List.drop_eq_getElem_cons h1, h2]
  have h3 : 1 - (ds.length - m) = 0 := by omega
  unfold cutB
  rw [e, h3]
  simp [be]
def ffs (n : Nat) : List Nat := List.replicate n 255
theorem ffs_small (n : Nat) : Small (ffs n) := by
  intro x hx
  have := (List.mem_replicate.1 hx).2
  omega
theorem lay_next (i : Nat) : wrB (growB (ffs (32 * i)) (32 * i + 32)) (32 * i) (ffs 32) = ffs (32 * (i + 1)) := by
  have h1 : 32 * wds (32 * i + 32) - (ffs (32 * i)).length = 32 := by
    have : (ffs (32 * i)).length = 32 * i := by simp [ffs]
    rw [this]
    unfold wds
    omega
  unfold growB wrB
  rw [h1]
  have h2 : (ffs (32 * i)).length = 32 * i := by simp [ffs]
  have h3 : (ffs 32).length = 32 := by simp [ffs]
  rw [h3, List.take_left' h2, List.drop_eq_nil_of_le (by rw [List.length_append, h2, List.length_replicate]; omega), List.append_nil]
  simp only [ffs, List.replicate_append_replicate]
  congr 1
end Go.Own
namespace Go.Proofs.YgcsalGreat
open Go.RowKit Go.Own
theorem not_zero : (18446744073709551616 ^ 4 - 1 - 0) % 18446744073709551616 ^ 4 = be (ffs 32) := by decide
section
variable {wB : World} {c fbB : Nat} {E : CEnv} {fb cap : Nat} {fs0 : Array Value} {rt : Value} {rd : List Nat} {la : List (List Nat)} {w : World} {cv : Value} {ds : List Nat} {lo hi n : Nat} {Q : World → Prop}
theorem play_group (i m : Nat) (R : RunE wB c fbB 0 cv ds fs0) (h : StG lo hi wB c fbB E 0 fb 0 1 cap fs0 m [] (ffs (32 * i)) i rt rd la w) (h0 : ds[m]? = some 95) (h1 : ds[m + 1]? = some 25) (h2 : ds[m + 2]? = some 96) (h3 : ds[m + 3]? = some (32 * i)) (h4 : ds[m + 4]? = some 82) (hi4 : i ≤ 4) (hm1 : m ≤ 800) (hlo : 200 ≤ lo) (k : ∀ w', StG (lo - 108) hi wB c fbB E 0 fb 0 1 cap fs0 (m + 5) [] (ffs (32 * (i + 1))) (i + 1) rt rd la w' → Play c Q n w') : Play c Q (n + 4) w := by
  refine play_push0 0 R h h0 (by simp) (Nat.le_refl _) (Nat.zero_le _) (by omega) (by omega) fun w1 s1 => ?_
  refine play_not (ns := []) 0 0 R s1 h1 (by decide) (by simp) (Nat.le_refl _) (Nat.zero_le _) (by omega) (by omega) fun w2 s2 => ?_
  rw [not_zero] at s2
  refine play_push1 (32 * i) 0 R s2 h2 (be_cut1 h3) (by simp) (Nat.le_refl _) (Nat.zero_le _) (by omega) (by omega) fun w3 s3 => ?_
  refine play_mstore (ns := []) (32 * i) (ffs 32) R s3 h4 (by simp) (Nat.le_refl _) (Nat.zero_le _) (by simp [ffs]) (ffs_small _) (by omega) (by omega) (by omega) fun w4 s4 => ?_
  refine k w4 ?_
  rw [lay_next] at s4
  have e1 : max i (wds (32 * i + 32)) = i + 1 := by unfold wds; omega
  rw [e1] at s4
  obtain ⟨G, q1, q2, q3, q4⟩ := s4
  exact ⟨G, by omega, q2, q3, q4⟩
/-- The program's first 20 bytes. -/
def preL : List Nat := [95, 25, 96, 0, 82, 95, 25, 96, 32, 82, 95, 25, 96, 64, 82, 95, 25, 96, 96, 82]
theorem play_ones (R : RunE wB c fbB 0 cv ds fs0) (h : StG lo hi wB c fbB E 0 fb 0 1 cap fs0 0 [] [] 0 rt rd la w) (hp : ∀ j, j < 20 → ds[j]? = preL[j]?) (hlo : 1000 ≤ lo) (k : ∀ w', StG (lo - 432) hi wB c fbB E 0 fb 0 1 cap fs0 20 [] (ffs 128) 4 rt rd la w' → Play c Q n w') : Play c Q (n + 16) w := by
  have h' : StG lo hi wB c fbB E 0 fb 0 1 cap fs0 0 [] (ffs (32 * 0)) 0 rt rd la w := h
  refine play_group (n := n + 12) 0 0 R h' (hp 0 (by decide)) (hp 1 (by decide)) (hp 2 (by decide)) (hp 3 (by decide)) (hp 4 (by decide)) (by decide) (by decide) (by omega) fun w1 s1 => ?_
  refine play_group (n := n + 8) 1 5 R s1 (hp 5 (by decide)) (hp 6 (by decide)) (hp 7 (by decide)) (hp 8 (by decide)) (hp 9 (by decide)) (by decide) (by decide) (by omega) fun w2 s2 => ?_
  refine play_group (n := n + 4) 2 10 R s2 (hp 10 (by decide)) (hp 11 (by decide)) (hp 12 (by decide)) (hp 13 (by decide)) (hp 14 (by decide)) (by decide) (by decide) (by omega) fun w3 s3 => ?_
  refine play_group (n := n) 3 15 R s3 (hp 15 (by decide)) (hp 16 (by decide)) (hp 17 (by decide)) (hp 18 (by decide)) (hp 19 (by decide)) (by decide) (by decide) (by omega) fun w4 s4 => ?_
  refine k w4 ?_
  obtain ⟨G, q1, q2, q3, q4⟩ := s4
  exact ⟨G, by simp only [Nat.sub_sub] at q1; exact q1, q2, q3, q4⟩
end
end Go.Proofs.YgcsalGreat

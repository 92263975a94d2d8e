/-
  The walk of law.copiesProgram at kind 4.
-/
import Derived.Test.YgcsalGreatCp39
import Derived.Test.YgcsalGreatCp33
import Derived.Test.YgcsalGreatSl41
set_option linter.unusedSimpArgs false
set_option linter.unusedVariables false
namespace Go.Proofs.YgcsalGreat
open Go.RowKit Go.Own

set_option maxHeartbeats 4000000 in
set_option maxRecDepth 100000 in
theorem copiesProgram_4 (N s D Z : Nat) (w : World) (hN : N < 256) (hD : D < 256) (hs : s < 256) : Calls Salg.prog 21 #[n8 4, n8 D, n8 s, n8 N, .bool false, .int .i64 (Z : Int)] w fun e w' => ∃ v, e = .returned v ∧ RowV w' 5 v ((preL ++ [96, 128, 95, 95, 55, 96, N, 96, s, 96, D, 94, 96, 128, 95, 243]).map n8) ∧ Kept [] w w' := by
  have M := Mem.start w []
  go_enter Salg.func21, Salg.ntmps21
  go_wp2_with fail
  go_loopw [13, 14] (fun cv iv wr => ∃ i : Nat, i ≤ 4 ∧ iv = n8 i ∧ wr.ownsRow w.heap.size 5 1 cv (5 * i) ((preL.take (5 * i)).map n8) ∧ Mem w [] [] wr) (fun _ iv _ => (4 - intOf iv).toNat)
  case atStart => exact ⟨0, by decide, rfl, own_nil _ _ _ _, M⟩
  case round =>
    clear M
    obtain ⟨i, hi, rfl, xC, M⟩ := hrel
    have HC := hid xC
    clear xC
    have hcase : i = 0 ∨ i = 1 ∨ i = 2 ∨ i = 3 ∨ i = 4 := by omega
    rcases hcase with rfl | rfl | rfl | rfl | rfl
    · go_wp2_with (first
        | ((with_reducible apply W_buildN (vs := #[n8 95, n8 25, n8 96, n8 0, n8 82]) (e := 5) M); kernel_rfl; clear M; intro bn0 wb0 hbn0 hbq0 KB0 M; have hBw0 := M.kept.size; replace HC := hid (own_kept HC.out KB0); clear KB0 hbq0; simp only [Act.put, List.setIfInBounds_toArray, List.set_cons_zero, List.set_cons_succ])
        | ((with_reducible apply W_appendX (base := w.heap.size) (n := 0) (m := 5) (s := 1) (bn := bn0) (so := 0) (xs := ((preL.take (5 * 0)).map n8)) (news := ([95, 25, 96, 0, 82].map n8)) (cs := (([95, 25, 96, 0, 82].map n8)).toArray) M.tail); exact info5; exact Salg.underlying40; rfl; decide; decide; rfl; rfl; exact HC.out; decide; exact M.r0; rfl; exact cells_news _; exact n8_one _; exact Nat.le_refl _; exact hBw0; (intro p hp; cases hp); clear M; intro VV0 wa0 M xO hb3 KA hN; replace HC := hid xO; clear xO KA hN; simp only [Act.put, List.setIfInBounds_toArray, List.set_cons_zero, List.set_cons_succ]))
      go_roundw
      case rel => exact ⟨1, by decide, rfl, HC.out, M⟩
      case measure => decide
    · go_wp2_with (first
        | ((with_reducible apply W_buildN (vs := #[n8 95, n8 25, n8 96, n8 32, n8 82]) (e := 5) M); kernel_rfl; clear M; intro bn1 wb1 hbn1 hbq1 KB1 M; have hBw1 := M.kept.size; replace HC := hid (own_kept HC.out KB1); clear KB1 hbq1; simp only [Act.put, List.setIfInBounds_toArray, List.set_cons_zero, List.set_cons_succ])
        | ((with_reducible apply W_appendX (base := w.heap.size) (n := 5) (m := 5) (s := 1) (bn := bn1) (so := 0) (xs := ((preL.take (5 * 1)).map n8)) (news := ([95, 25, 96, 32, 82].map n8)) (cs := (([95, 25, 96, 32, 82].map n8)).toArray) M.tail); exact info5; exact Salg.underlying40; rfl; decide; decide; rfl; rfl; exact HC.out; decide; exact M.r0; rfl; exact cells_news _; exact n8_one _; exact Nat.le_refl _; exact hBw1; (intro p hp; cases hp); clear M; intro VV1 wa1 M xO hb3 KA hN; replace HC := hid xO; clear xO KA hN; simp only [Act.put, List.setIfInBounds_toArray, List.set_cons_zero, List.set_cons_succ]))
      go_roundw
      case rel => exact ⟨2, by decide, rfl, HC.out, M⟩
      case measure => decide
    · go_wp2_with (first
        | ((with_reducible apply W_buildN (vs := #[n8 95, n8 25, n8 96, n8 64, n8 82]) (e := 5) M); kernel_rfl; clear M; intro bn2 wb2 hbn2 hbq2 KB2 M; have hBw2 := M.kept.size; replace HC := hid (own_kept HC.out KB2); clear KB2 hbq2; simp only [Act.put, List.setIfInBounds_toArray, List.set_cons_zero, List.set_cons_succ])
        | ((with_reducible apply W_appendX (base := w.heap.size) (n := 10) (m := 5) (s := 1) (bn := bn2) (so := 0) (xs := ((preL.take (5 * 2)).map n8)) (news := ([95, 25, 96, 64, 82].map n8)) (cs := (([95, 25, 96, 64, 82].map n8)).toArray) M.tail); exact info5; exact Salg.underlying40; rfl; decide; decide; rfl; rfl; exact HC.out; decide; exact M.r0; rfl; exact cells_news _; exact n8_one _; exact Nat.le_refl _; exact hBw2; (intro p hp; cases hp); clear M; intro VV2 wa2 M xO hb3 KA hN; replace HC := hid xO; clear xO KA hN; simp only [Act.put, List.setIfInBounds_toArray, List.set_cons_zero, List.set_cons_succ]))
      go_roundw
      case rel => exact ⟨3, by decide, rfl, HC.out, M⟩
      case measure => decide
    · go_wp2_with (first
        | ((with_reducible apply W_buildN (vs := #[n8 95, n8 25, n8 96, n8 96, n8 82]) (e := 5) M); kernel_rfl; clear M; intro bn3 wb3 hbn3 hbq3 KB3 M; have hBw3 := M.kept.size; replace HC := hid (own_kept HC.out KB3); clear KB3 hbq3; simp only [Act.put, List.setIfInBounds_toArray, List.set_cons_zero, List.set_cons_succ])
        | ((with_reducible apply W_appendX (base := w.heap.size) (n := 15) (m := 5) (s := 1) (bn := bn3) (so := 0) (xs := ((preL.take (5 * 3)).map n8)) (news := ([95, 25, 96, 96, 82].map n8)) (cs := (([95, 25, 96, 96, 82].map n8)).toArray) M.tail); exact info5; exact Salg.underlying40; rfl; decide; decide; rfl; rfl; exact HC.out; decide; exact M.r0; rfl; exact cells_news _; exact n8_one _; exact Nat.le_refl _; exact hBw3; (intro p hp; cases hp); clear M; intro VV3 wa3 M xO hb3 KA hN; replace HC := hid xO; clear xO KA hN; simp only [Act.put, List.setIfInBounds_toArray, List.set_cons_zero, List.set_cons_succ]))
      go_roundw
      case rel => exact ⟨4, by decide, rfl, HC.out, M⟩
      case measure => decide
    · go_wp2_with fail
      refine (sourcePush_near s _).mono ?_
      rintro e w5 ⟨fv, rfl, x1, K⟩
      have HF := hid x1
      replace HC := hid (own_kept HC.out K)
      replace M := M.call K
      clear K x1
      go_wp2_with (first
        | ((with_reducible apply W_buildN (d := 30) (vs := #[n8 96, n8 N]) (e := 5) M); kernel_rfl; clear M; intro bn7 wb7 hbn7 hbq7 KB7 M; have hBw7 := M.kept.size; replace HC := hid (own_kept HC.out KB7); replace HF := hid (HF.out.kept KB7); clear KB7 hbq7; simp only [Act.put, List.setIfInBounds_toArray, List.set_cons_zero, List.set_cons_succ])
        | ((with_reducible apply W_buildN (d := 33) (vs := #[n8 96, n8 D]) (e := 5) M); kernel_rfl; clear M; intro bn8 wb8 hbn8 hbq8 KB8 M; have hBw8 := M.kept.size; replace HC := hid (own_kept HC.out KB8); replace HF := hid (HF.out.kept KB8); clear KB8 hbq8; simp only [Act.put, List.setIfInBounds_toArray, List.set_cons_zero, List.set_cons_succ]))
      refine (join_three _ ([96, N].map n8) fv ([96, s].map n8) _ ([96, D].map n8) _ (RowV.own (own_lit (base := 0) M.r1 rfl (Nat.le_of_ble_eq_true rfl) (Nat.zero_le _))) (by simp) (by simp) (n8_one _) HF.out (by simp) (by simp) (n8_one _) (RowV.own (own_lit (base := 0) M.r0 rfl (Nat.le_of_ble_eq_true rfl) (Nat.zero_le _))) (by simp) (by simp) (n8_one _)).mono ?_
      rintro e w6 ⟨tv, rfl, x1, K⟩
      have HT := hid (RowV.own x1)
      replace HC := hid (own_kept HC.out K)
      replace M := M.call K
      clear K x1
      clear HT
      go_wp2_with (first
        | ((with_reducible apply W_buildN (d := 69) (vs := #[n8 96, n8 128, n8 95, n8 95, n8 55, n8 96, n8 N, n8 96, n8 s, n8 96, n8 D, n8 94]) (e := 5) M); kernel_rfl; clear M; intro bn9 wb9 hbn9 hbq9 KB9 M; have hBw9 := M.kept.size; replace HC := hid (own_kept HC.out KB9); clear KB9 hbq9; simp only [Act.put, List.setIfInBounds_toArray, List.set_cons_zero, List.set_cons_succ])
        | ((with_reducible apply W_appendX (d := 70) (base := w.heap.size) (n := 20) (m := 12) (s := 1) (bn := bn9) (so := 0) (xs := ((preL.take (5 * 4)).map n8)) (news := ([96, 128, 95, 95, 55, 96, N, 96, s, 96, D, 94].map n8)) (cs := ([96, 128, 95, 95, 55, 96, N, 96, s, 96, D, 94].map n8).toArray) M.tail.tail.tail); exact info5; exact Salg.underlying40; rfl; decide; decide; rfl; rfl; exact HC.out; decide; exact M.r0; rfl; exact cells_news _; exact n8_one _; exact Nat.le_refl _; exact hBw9; (intro p hp; cases hp); clear M; intro VB wB M xO hb3 KA hN; replace HC := hid xO; clear xO KA hN; simp only [Act.put, List.setIfInBounds_toArray, List.set_cons_zero, List.set_cons_succ]))
      refine (ret_any 128 _).mono ?_
      rintro e w9 ⟨rv, rfl, x1, K⟩
      obtain ⟨rg, rcap, rcur, rfl, hrr, _, hrc⟩ := x1.pos (by simp)
      have HRR := hid hrr
      have HRC : Hid (∀ (j : Nat) (u : Value), ([96, 128, 95, 243].map n8)[j]? = some u → rcur[0 + j]? = some u) := by
        intro j u hj
        have hjl := (List.getElem?_eq_some_iff.1 hj).1
        rw [Nat.zero_add, hrc j (by simpa using hjl)]
        exact hj
      replace HC := hid (own_kept HC.out K)
      replace M := M.call K
      have hBw10 := M.kept.size
      clear K x1 hrr hrc
      go_wp2_with ((with_reducible apply W_appendX (d := 94) (base := w.heap.size) (n := 32) (m := 4) (s := 1) (bn := rg) (so := 0) (xs := ((preL.take (5 * 4)).map n8 ++ [96, 128, 95, 95, 55, 96, N, 96, s, 96, D, 94].map n8)) (news := ([96, 128, 95, 243].map n8)) (cs := rcur) M); exact info5; exact Salg.underlying40; rfl; decide; decide; rfl; rfl; exact HC.out; decide; exact HRR.out; rfl; exact HRC.out; exact n8_one _; exact Nat.le_refl _; exact hBw10; (intro p hp; cases hp); clear M; intro VC wC M xO hb3 KA hN; replace HC := hid xO; clear xO KA hN; simp only [Act.put, List.setIfInBounds_toArray, List.set_cons_zero, List.set_cons_succ])
      go_ret
      exact ⟨_, rfl, RowV.own HC.out, M.kept⟩
end Go.Proofs.YgcsalGreat

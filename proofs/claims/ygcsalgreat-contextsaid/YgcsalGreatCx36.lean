/-
  The walks of law.probe, law.pushes, law.forwarder.
-/
import Derived.Test.YgcsalGreatCx35
import Derived.Test.YgcsalGreatCp45
set_option linter.unusedSimpArgs false
set_option linter.unusedVariables false
namespace Go.Proofs.YgcsalGreat
open Go.RowKit Go.Own

set_option maxHeartbeats 4000000 in
set_option maxRecDepth 100000 in
theorem probe_any (w : World) : Calls Salg.prog 106 #[] w fun e w' => ∃ v, e = .returned v ∧ w'.ownsRow w.heap.size 5 1 v 19 (probeL.map n8) ∧ Kept [] w w' := by
  have M := Mem.start w []
  go_enter Salg.func106, Salg.ntmps106
  go_wp2_with ((with_reducible apply W_buildN (vs := #[n8 48, n8 95, n8 82, n8 51, n8 96, n8 32, n8 82, n8 52, n8 96, n8 64, n8 82, n8 50, n8 96, n8 96, n8 82, n8 96, n8 128, n8 95, n8 243]) (e := 5) M); kernel_rfl; clear M; intro bn w2 hbn hbn2 KB M; clear KB hbn2; simp only [Act.put, List.setIfInBounds_toArray, List.set_cons_zero, List.set_cons_succ])
  go_ret
  exact ⟨_, rfl, own_lit M.r0 rfl (by decide) hbn, M.kept⟩

set_option maxHeartbeats 4000000 in
set_option maxRecDepth 100000 in
theorem pushes_4 (w : World) : Calls Salg.prog 176 #[.int .i64 4] w fun e w' => ∃ v, e = .returned v ∧ w'.ownsRow w.heap.size 5 1 v 4 ([95, 95, 95, 95].map n8) ∧ Kept [] w w' := by
  have M := Mem.start w []
  go_enter Salg.func176, Salg.ntmps176
  go_wp2_with ((with_reducible apply W_make8 (n := 4) M); rfl; rfl; omega; omega; omega; exact Salg.underlying40; exact info5; clear M; intro b6 w2 hb6 M; simp only [Act.put, List.setIfInBounds_toArray, List.set_cons_zero, List.set_cons_succ])
  go_loopw [9] (fun iv wr => ∃ i : Nat, i ≤ 4 ∧ iv = .int .i64 (i : Int) ∧ Mem w [] [(b6, R8 5 (List.replicate i 95 ++ List.replicate (4 - i) 0))] wr) (fun iv _ => (4 - intOf iv).toNat)
  case atStart => exact ⟨0, by omega, rfl, M⟩
  case round =>
    clear M
    obtain ⟨i, hi, rfl, M⟩ := hrel
    have hh : i = 0 ∨ i = 1 ∨ i = 2 ∨ i = 3 ∨ i = 4 := by omega
    rcases hh with rfl | rfl | rfl | rfl | rfl
    · go_wp2_with ((with_reducible apply W_st8_0 (o := 0) (m := 95)); rfl; rfl; rfl; exact M; exact Or.inr hb6; exact size5; decide; clear M; intro w3 M)
      go_roundw
      case rel => exact ⟨1, by omega, by go_num, M⟩
      case measure => simp [intOf]
    · go_wp2_with ((with_reducible apply W_st8_0 (o := 1) (m := 95)); rfl; rfl; rfl; exact M; exact Or.inr hb6; exact size5; decide; clear M; intro w3 M)
      go_roundw
      case rel => exact ⟨2, by omega, by go_num, M⟩
      case measure => simp [intOf]
    · go_wp2_with ((with_reducible apply W_st8_0 (o := 2) (m := 95)); rfl; rfl; rfl; exact M; exact Or.inr hb6; exact size5; decide; clear M; intro w3 M)
      go_roundw
      case rel => exact ⟨3, by omega, by go_num, M⟩
      case measure => simp [intOf]
    · go_wp2_with ((with_reducible apply W_st8_0 (o := 3) (m := 95)); rfl; rfl; rfl; exact M; exact Or.inr hb6; exact size5; decide; clear M; intro w3 M)
      go_roundw
      case rel => exact ⟨4, by omega, by go_num, M⟩
      case measure => simp [intOf]
    · go_wp2_with fail
      go_ret
      exact ⟨_, rfl, own_lit M.r0 rfl (by decide) hb6, M.kept⟩

set_option maxHeartbeats 4000000 in
set_option maxRecDepth 100000 in
theorem forwarder_C (t v : Nat) (w : World) : Calls Salg.prog 107 #[.int .u8 241, n8 t, n8 v] w fun e w' => ∃ u, e = .returned u ∧ w'.ownsRow w.heap.size 5 1 u 18 ((fwdC v t).map n8) ∧ Kept [] w w' := by
  have M := Mem.start w []
  go_enter Salg.func107, Salg.ntmps107
  go_wp2_with fail
  refine (pushes_4 _).mono ?_
  rintro e w1 ⟨pv, rfl, xO, K⟩
  have HO := hid xO
  have hBw := K.size
  replace M := M.call K
  clear K xO
  go_wp2_with (first
    | ((with_reducible apply W_buildN (d := 13) (vs := #[n8 96, n8 v]) (e := 5) M); kernel_rfl; clear M; intro bn13 wb13 hbn13 hbq13 KB M; replace HO := hid (own_kept HO.out KB); replace hBw := Nat.le_trans hBw KB.size; clear KB hbq13; simp only [Act.put, List.setIfInBounds_toArray, List.set_cons_zero, List.set_cons_succ])
    | ((with_reducible apply W_appendIt (d := 14) (base := w.heap.size) (n := 4) (m := 2) (s := 1) (bn := bn13) (so := 0) (xs := ([95, 95, 95, 95].map n8)) (news := ([96, v] : List Nat).map n8) (cs := (([96, v] : List Nat).map n8).toArray) M.tail); exact info5; exact Salg.underlying40; rfl; decide; decide; rfl; rfl; exact HO.out; decide; exact M.r0; rfl; exact cells_news _; exact n8_one _; exact Nat.le_refl _; exact hBw; (intro p hp; cases hp); clear M; intro V14 wv14 M xO hb3 KA; replace HO := hid xO; replace hBw := hb3; clear xO hb3 KA; simp only [Act.put, List.setIfInBounds_toArray, List.set_cons_zero, List.set_cons_succ])
    | ((with_reducible apply W_buildN (d := 18) (vs := #[n8 96, n8 t, n8 90, n8 241, n8 80]) (e := 5) M); kernel_rfl; clear M; intro bn18 wb18 hbn18 hbq18 KB M; replace HO := hid (own_kept HO.out KB); replace hBw := Nat.le_trans hBw KB.size; clear KB hbq18; simp only [Act.put, List.setIfInBounds_toArray, List.set_cons_zero, List.set_cons_succ])
    | ((with_reducible apply W_appendIt (d := 19) (base := w.heap.size) (n := 6) (m := 5) (s := 1) (bn := bn18) (so := 0) (xs := (([95, 95, 95, 95].map n8) ++ ([96, v] : List Nat).map n8)) (news := ([96, t, 90, 241, 80] : List Nat).map n8) (cs := (([96, t, 90, 241, 80] : List Nat).map n8).toArray) M.tail); exact info5; exact Salg.underlying40; rfl; decide; decide; rfl; rfl; exact HO.out; decide; exact M.r0; rfl; exact cells_news _; exact n8_one _; exact Nat.le_refl _; exact hBw; (intro p hp; cases hp); clear M; intro V19 wv19 M xO hb3 KA; replace HO := hid xO; replace hBw := hb3; clear xO hb3 KA; simp only [Act.put, List.setIfInBounds_toArray, List.set_cons_zero, List.set_cons_succ])
    | ((with_reducible apply W_buildN (d := 21) (vs := #[n8 61, n8 95, n8 95, n8 62, n8 61, n8 95, n8 243]) (e := 5) M); kernel_rfl; clear M; intro bn21 wb21 hbn21 hbq21 KB M; replace HO := hid (own_kept HO.out KB); replace hBw := Nat.le_trans hBw KB.size; clear KB hbq21; simp only [Act.put, List.setIfInBounds_toArray, List.set_cons_zero, List.set_cons_succ])
    | ((with_reducible apply W_appendIt (d := 22) (base := w.heap.size) (n := 11) (m := 7) (s := 1) (bn := bn21) (so := 0) (xs := ((([95, 95, 95, 95].map n8) ++ ([96, v] : List Nat).map n8) ++ ([96, t, 90, 241, 80] : List Nat).map n8)) (news := ([61, 95, 95, 62, 61, 95, 243] : List Nat).map n8) (cs := (([61, 95, 95, 62, 61, 95, 243] : List Nat).map n8).toArray) M.tail); exact info5; exact Salg.underlying40; rfl; decide; decide; rfl; rfl; exact HO.out; decide; exact M.r0; rfl; exact cells_news _; exact n8_one _; exact Nat.le_refl _; exact hBw; (intro p hp; cases hp); clear M; intro V22 wv22 M xO hb3 KA; replace HO := hid xO; replace hBw := hb3; clear xO hb3 KA; simp only [Act.put, List.setIfInBounds_toArray, List.set_cons_zero, List.set_cons_succ]))
  go_ret
  refine ⟨_, rfl, ?_, M.kept⟩
  exact HO.out

set_option maxHeartbeats 4000000 in
set_option maxRecDepth 100000 in
theorem forwarder_O (t o : Nat) (w : World) (ho : o ≠ 241) : Calls Salg.prog 107 #[n8 o, n8 t, n8 0] w fun e w' => ∃ u, e = .returned u ∧ w'.ownsRow w.heap.size 5 1 u 16 ((fwdO t o).map n8) ∧ Kept [] w w' := by
  have M := Mem.start w []
  have dk : decide ((o : Int) = 241) = false := by simp; omega
  have ek : decide (o = 241) = false := by simp; omega
  have bk : ((o : Int) == 241) = false := by rw [beq_eq_false_iff_ne]; omega
  go_enter Salg.func107, Salg.ntmps107
  go_wp2_with fail
  refine (pushes_4 _).mono ?_
  rintro e w1 ⟨pv, rfl, xO, K⟩
  have HO := hid xO
  have hBw := K.size
  replace M := M.call K
  clear K xO
  go_wp2_with (first
    | ((with_reducible apply W_buildN (d := 18) (vs := #[n8 96, n8 t, n8 90, n8 o, n8 80]) (e := 5) M); kernel_rfl; clear M; intro bn18 wb18 hbn18 hbq18 KB M; replace HO := hid (own_kept HO.out KB); replace hBw := Nat.le_trans hBw KB.size; clear KB hbq18; simp only [Act.put, List.setIfInBounds_toArray, List.set_cons_zero, List.set_cons_succ])
    | ((with_reducible apply W_appendIt (d := 19) (base := w.heap.size) (n := 4) (m := 5) (s := 1) (bn := bn18) (so := 0) (xs := ([95, 95, 95, 95].map n8)) (news := ([96, t, 90, o, 80] : List Nat).map n8) (cs := (([96, t, 90, o, 80] : List Nat).map n8).toArray) M.tail); exact info5; exact Salg.underlying40; rfl; decide; decide; rfl; rfl; exact HO.out; decide; exact M.r0; rfl; exact cells_news _; exact n8_one _; exact Nat.le_refl _; exact hBw; (intro p hp; cases hp); clear M; intro V19 wv19 M xO hb3 KA; replace HO := hid xO; replace hBw := hb3; clear xO hb3 KA; simp only [Act.put, List.setIfInBounds_toArray, List.set_cons_zero, List.set_cons_succ])
    | ((with_reducible apply W_buildN (d := 21) (vs := #[n8 61, n8 95, n8 95, n8 62, n8 61, n8 95, n8 243]) (e := 5) M); kernel_rfl; clear M; intro bn21 wb21 hbn21 hbq21 KB M; replace HO := hid (own_kept HO.out KB); replace hBw := Nat.le_trans hBw KB.size; clear KB hbq21; simp only [Act.put, List.setIfInBounds_toArray, List.set_cons_zero, List.set_cons_succ])
    | ((with_reducible apply W_appendIt (d := 22) (base := w.heap.size) (n := 9) (m := 7) (s := 1) (bn := bn21) (so := 0) (xs := (([95, 95, 95, 95].map n8) ++ ([96, t, 90, o, 80] : List Nat).map n8)) (news := ([61, 95, 95, 62, 61, 95, 243] : List Nat).map n8) (cs := (([61, 95, 95, 62, 61, 95, 243] : List Nat).map n8).toArray) M.tail); exact info5; exact Salg.underlying40; rfl; decide; decide; rfl; rfl; exact HO.out; decide; exact M.r0; rfl; exact cells_news _; exact n8_one _; exact Nat.le_refl _; exact hBw; (intro p hp; cases hp); clear M; intro V22 wv22 M xO hb3 KA; replace HO := hid xO; replace hBw := hb3; clear xO hb3 KA; simp only [Act.put, List.setIfInBounds_toArray, List.set_cons_zero, List.set_cons_succ]))
  go_ret
  refine ⟨_, rfl, ?_, M.kept⟩
  exact HO.out
end Go.Proofs.YgcsalGreat

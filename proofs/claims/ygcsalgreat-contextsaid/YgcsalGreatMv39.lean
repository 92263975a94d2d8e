/-
  The walk of law.movesHolds at SWAP.
-/
import Derived.Test.YgcsalGreatMv37
set_option linter.unusedSimpArgs false
set_option linter.unusedVariables false
namespace Go.Proofs.YgcsalGreat
open Go.RowKit Go.Own

set_option maxHeartbeats 4000000 in
set_option maxRecDepth 100000 in
theorem movesHolds_1 (kind n cut : Nat) (fl im : List Nat) (sv : Value) (VR : Array Value) (w : World) (hk : kind % 4 = 1) (hk2 : kind < 256) (hn : n < 256) (hcu : cut < 256) (hfl : fl.length = 136) (hfs : Small fl) (him : im.length = 32) (hims : Small im) (v0 : VR[0]? = some (.bool false)) (v3 : VR[3]? = some (.int .u16 (154))) (v46 : VR[46]? = some sv) (hsv : WsV w sv (((wantP fl 17).set 16 (w8L (wsI fl (15 - n % 16)))).set (15 - n % 16) (w8L (wsI fl 16)))) :
    Calls Salg.prog 19 #[n8 kind, n8 n, n8 cut, .agg (fl.map n8).toArray, A8 im, .agg VR] w fun e w' => e = .returned (.bool true) ∧ Kept [] w w' := by
  have M := Mem.start w []
  have HFL := hid hfl
  have HFS := hid hfs
  have HIM := hid him
  have HIS := hid hims
  have HSV := hid hsv
  have dk0 : decide ((kind : Int) % 4 = 0) = false := by simp; omega
  have ek0 : decide (kind % 4 = 0) = false := by simp; omega
  have dk1 : decide ((kind : Int) % 4 = 1) = true := by simp; omega
  have ek1 : decide (kind % 4 = 1) = true := by simp; omega
  have dk2 : decide ((kind : Int) % 4 = 2) = false := by simp; omega
  have ek2 : decide (kind % 4 = 2) = false := by simp; omega
  have dk3 : decide ((kind : Int) % 4 = 3) = false := by simp; omega
  have ek3 : decide (kind % 4 = 3) = false := by simp; omega
  clear hfl hfs him hims hsv
  go_enter Salg.func19, Salg.ntmps19
  go_wp2_with (first
    | ((with_reducible apply L_box (d := 9) M); rfl; clear M; intro t9 w1 ht9 M; simp only [Act.put, List.setIfInBounds_toArray, List.set_cons_zero, List.set_cons_succ])
    | ((with_reducible apply L_box (d := 10) M); rfl; clear M; intro t10 w2 ht10 M; simp only [Act.put, List.setIfInBounds_toArray, List.set_cons_zero, List.set_cons_succ])
    | ((with_reducible apply L_box (d := 11) M); rfl; clear M; intro t11 w3 ht11 M; simp only [Act.put, List.setIfInBounds_toArray, List.set_cons_zero, List.set_cons_succ])
    | ((with_reducible apply W_makeV (n := 17) (s := 32) (z := A8 (List.replicate 32 0)) (cs := (wsL (wantP fl 0)).toArray) M); rfl; rfl; rfl; rfl; decide; exact Salg.underlying54; exact info46; rfl; decide; decide; decide; exact zws; clear M; intro wb w4 hwb hwb2 KB M; clear KB hwb2; simp only [Act.put, List.setIfInBounds_toArray, List.set_cons_zero, List.set_cons_succ]))
  go_loopw [23] (fun iv wr => ∃ i : Nat, i ≤ 17 ∧ iv = .int .i64 i ∧ Mem w [] [(wb, .cells (wsL (wantP fl i)).toArray 46 (0, 0)), (t11, .cells VR 56 (0, 0)), (t10, .cells (im.map n8).toArray 22 (0, 0)), (t9, .cells (fl.map n8).toArray 34 (0, 0))] wr) (fun iv _ => (17 - intOf iv).toNat)
  case atStart => exact ⟨0, by omega, rfl, M⟩
  case round =>
    clear M
    obtain ⟨i, hi, rfl, M⟩ := hrel
    rcases Nat.lt_or_ge i 17 with hlt | hge
    · have HWL := hid (wsI_len HFL.out hlt)
      have HSP : Hid (splice (wsL (wantP fl i)).toArray (i * 32) ((w8L (wsI fl i)).map n8) = (wsL (wantP fl (i + 1))).toArray) := by
        show _ = _
        rw [splice_ws (wantP_ok HFL.out hi) (by rw [wantP_len hi]; exact hlt) (w8L_len HWL.out), wantP_succ hlt]
      have HSZ : Hid (i * 32 + 32 ≤ (wsL (wantP fl i)).toArray.size) := by
        show _ ≤ _
        rw [List.size_toArray, wsL_len (wantP_ok HFL.out hi), wantP_len hi]
        omega
      have HW8 := hid (w8L_len HWL.out)
      go_wp2_with ((with_reducible apply W_loadX (b := t9) (o := i * 8) (n := 8) (cs := (fl.map n8).toArray) (vs := ((wsI fl i).map n8).toArray)); (first | rfl | exact ptr_eq (by omega)); exact M.r3; exact Salg.underlying33; rfl; exact size33; (rw [List.size_toArray, List.length_map, HFL.out]; omega); exact wsI_ext HFL.out (by omega); simp only [Act.put, List.setIfInBounds_toArray, List.set_cons_zero, List.set_cons_succ])
      refine (word8_any _ _ HWL.out).mono ?_
      rintro e w5 ⟨rfl, K⟩
      replace M := M.call K
      clear K
      go_wp2_with ((with_reducible apply W_stP (b := wb) (o := i * 32) (n := 32) (v := A8 (w8L (wsI fl i))) (rs := (wsL (wantP fl (i + 1))).toArray)); rfl; rfl; exact M.r0; exact size46; (simp [Value.cells, HW8.out]); exact oneT (n8_one _); exact HSZ.out; exact HSP.out; intro w6 K hr3; replace M := Mem.callPut (L1 := []) M (Or.inr hwb) K hr3; clear K hr3; simp only [List.nil_append] at M)
      go_roundw
      case rel => exact ⟨i + 1, by omega, by go_num, M⟩
      case measure => simp [intOf]; omega
    · obtain rfl : i = 17 := by omega
      clear hge hi
      have HWA := hid (wsI_len HFL.out (i := 15 - n % 16) (by omega))
      have HWB := hid (wsI_len HFL.out (i := 16) (by omega))
      have HUA := hid (w8L_len HWA.out)
      have HUB := hid (w8L_len HWB.out)
      have HOK0 : Hid (∀ p ∈ wantP fl 17, p.length = 32) := wantP_ok HFL.out (Nat.le_refl _)
      have HOK1 : Hid (∀ p ∈ (wantP fl 17).set 16 (w8L (wsI fl (15 - n % 16))), p.length = 32) := by
        intro p hp
        rcases List.mem_or_eq_of_mem_set hp with h1 | rfl
        · exact HOK0.out p h1
        · exact HUA.out
      have HLLA : Hid ((wantP fl 17).length = 17) := wantP_len (Nat.le_refl _)
      have HLLB : Hid (((wantP fl 17).set 16 (w8L (wsI fl (15 - n % 16)))).length = 17) := by show _ = _; rw [List.length_set]; exact HLLA.out
      have HLN : Hid ((((wantP fl 17).set 16 (w8L (wsI fl (15 - n % 16)))).set (15 - n % 16) (w8L (wsI fl 16))).length ≤ 40) := by show _ ≤ _; rw [List.length_set, HLLB.out]; decide
      have HOKS : Hid (∀ p ∈ ((wantP fl 17).set 16 (w8L (wsI fl (15 - n % 16)))).set (15 - n % 16) (w8L (wsI fl 16)), p.length = 32 ∧ Small p) := by
        intro p hp
        rcases List.mem_or_eq_of_mem_set hp with h1 | rfl
        · refine ⟨HOK1.out p h1, ?_⟩
          rcases List.mem_or_eq_of_mem_set h1 with h2 | rfl
          · exact wantP_small HFS.out 17 p h2
          · exact want_small HFS.out _
        · exact ⟨HUB.out, want_small HFS.out _⟩
      have AP : Hid (splice (wsL (wantP fl 17)).toArray (16 * 32) ((w8L (wsI fl (15 - n % 16))).map n8) = (wsL ((wantP fl 17).set 16 (w8L (wsI fl (15 - n % 16))))).toArray) := splice_ws HOK0.out (by rw [HLLA.out]; decide) HUA.out
      have AZ : Hid (16 * 32 + 32 ≤ (wsL (wantP fl 17)).toArray.size) := by
        show _ ≤ _
        rw [List.size_toArray, wsL_len HOK0.out, HLLA.out]
        omega
      have BP : Hid (splice (wsL ((wantP fl 17).set 16 (w8L (wsI fl (15 - n % 16))))).toArray ((15 - n % 16) * 32) ((w8L (wsI fl 16)).map n8) = (wsL (((wantP fl 17).set 16 (w8L (wsI fl (15 - n % 16)))).set (15 - n % 16) (w8L (wsI fl 16)))).toArray) := splice_ws HOK1.out (by rw [HLLB.out]; omega) HUB.out
      have BZ : Hid ((15 - n % 16) * 32 + 32 ≤ (wsL ((wantP fl 17).set 16 (w8L (wsI fl (15 - n % 16))))).toArray.size) := by
        show _ ≤ _
        rw [List.size_toArray, wsL_len HOK1.out, HLLB.out]
        omega
      go_wp2_with ((with_reducible apply W_loadX (b := t9) (o := (15 - n % 16) * 8) (n := 8) (cs := (fl.map n8).toArray) (vs := ((wsI fl (15 - n % 16)).map n8).toArray)); (first | rfl | exact ptr_eq (by omega)); exact M.r3; exact Salg.underlying33; rfl; exact size33; (rw [List.size_toArray, List.length_map, HFL.out]; omega); exact wsI_ext HFL.out (by omega); simp only [Act.put, List.setIfInBounds_toArray, List.set_cons_zero, List.set_cons_succ])
      refine (word8_any _ _ HWA.out).mono ?_
      rintro e w7 ⟨rfl, K⟩
      replace M := M.call K
      clear K
      go_wp2_with (first
        | ((with_reducible apply W_stP (b := wb) (o := 16 * 32) (n := 32) (v := A8 (w8L (wsI fl (15 - n % 16)))) (rs := (wsL ((wantP fl 17).set 16 (w8L (wsI fl (15 - n % 16))))).toArray)); (first | rfl | exact ptr_eq (by omega)); rfl; exact M.r0; exact size46; (simp [Value.cells, HUA.out]); exact oneT (n8_one _); exact AZ.out; exact AP.out; intro w6 K hr3; replace M := Mem.callPut (L1 := []) M (Or.inr hwb) K hr3; clear K hr3; simp only [List.nil_append] at M)
        | ((with_reducible apply W_loadX (b := t9) (o := 16 * 8) (n := 8) (cs := (fl.map n8).toArray) (vs := ((wsI fl 16).map n8).toArray)); (first | rfl | exact ptr_eq (by omega)); exact M.r3; exact Salg.underlying33; rfl; exact size33; (rw [List.size_toArray, List.length_map, HFL.out]; omega); exact wsI_ext HFL.out (by omega); simp only [Act.put, List.setIfInBounds_toArray, List.set_cons_zero, List.set_cons_succ]))
      refine (word8_any _ _ HWB.out).mono ?_
      rintro e w8 ⟨rfl, K⟩
      replace M := M.call K
      clear K
      go_wp2_with (first
        | ((with_reducible apply W_stP (b := wb) (o := (15 - n % 16) * 32) (n := 32) (v := A8 (w8L (wsI fl 16))) (rs := (wsL (((wantP fl 17).set 16 (w8L (wsI fl (15 - n % 16)))).set (15 - n % 16) (w8L (wsI fl 16)))).toArray)); (first | rfl | exact ptr_eq (by omega)); rfl; exact M.r0; exact size46; (simp [Value.cells, HUB.out]); exact oneT (n8_one _); exact BZ.out; exact BP.out; intro w6 K hr3; replace M := Mem.callPut (L1 := []) M (Or.inr hwb) K hr3; clear K hr3; simp only [List.nil_append] at M)
        | ((with_reducible apply W_loadCell); rfl; exact M.r1; exact v0; exact Salg.underlying4; rfl; simp only [Act.put, List.setIfInBounds_toArray, List.set_cons_zero, List.set_cons_succ])
        | ((with_reducible apply W_loadCellG); rfl; rfl; exact M.r1; exact v3; exact Salg.underlying53; rfl; simp only [Act.put, List.setIfInBounds_toArray, List.set_cons_zero, List.set_cons_succ])
        | ((with_reducible apply W_loadCellG); rfl; rfl; exact M.r1; exact v46; exact Salg.underlying54; rfl; simp only [Act.put, List.setIfInBounds_toArray, List.set_cons_zero, List.set_cons_succ]))
      have HL17 : (((wantP fl 17).set 16 (w8L (wsI fl (15 - n % 16)))).set (15 - n % 16) (w8L (wsI fl 16))).length = 17 := by rw [List.length_set]; exact HLLB.out
      have HWV := wsV_row M.r0 (List.prefix_refl _) (cap := 17) (by rw [HL17]; decide) HOKS.out
      rw [HL17] at HWV
      refine (wordsMeet_yes _ _ _ _ (HSV.out.kept M.kept) (HWV) HLN.out).mono ?_
      rintro e w20 ⟨rfl, K⟩
      replace M := M.call K
      clear K
      go_wp2_with fail
      go_ret
      exact ⟨rfl, M.kept⟩
end Go.Proofs.YgcsalGreat

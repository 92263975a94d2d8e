/-
  The walk of law.copiesHolds (kinds 4 and 6).
-/
import Derived.Test.YgcsalGreatCp45
import Derived.Test.YgcsalGreatCp36
import Derived.Test.YgcsalGreatSl40
import Derived.Test.YgcsalGreatCp48
set_option linter.unusedSimpArgs false
set_option linter.unusedVariables false
namespace Go.Proofs.YgcsalGreat
open Go.RowKit Go.Own

set_option maxHeartbeats 4000000 in
set_option maxRecDepth 100000 in
theorem holds_4 (D s N U : Nat) (p : Option Addr) (len cap : Nat) (dd pr : List Nat) (pv ou : Value) (w : World) (hD : D < 64) (hs : s < 64) (hN : N < 64) (hdl : dd.length = len) (hl96 : len ≤ 96) (hdv : DatV w (.slice p len cap) dd) (hou : NatV w ou (wrB (cutB dd 0 128) D (cutB (cutB dd 0 128) s N))) :
    Calls Salg.prog 24 #[n8 4, n8 D, n8 s, n8 N, .bool false, .slice p len cap, pv, .agg (rcL (n64 U) ou).toArray] w fun e w' => e = .returned (.bool true) ∧ Kept [] w w' := by
  have M := Mem.start w []
  have HDL := hid hdl
  have HDV := hid hdv
  have HOV : Hid (wrB (ffs 128) 0 (cutB dd 0 128) = cutB dd 0 128) := wrB_over (by rw [cutB_length, ffs_length])
  have HSM : Hid (Small (wrB (cutB dd 0 128) D (cutB (cutB dd 0 128) s N))) := wrB_small (cutB_small hdv.1 _ _) (cutB_small (cutB_small hdv.1 _ _) _ _)
  have HWL : Hid (((wrB (cutB dd 0 128) D (cutB (cutB dd 0 128) s N))).length = 128) := by show _ = _; rw [wrB_length (by rw [cutB_length, cutB_length]; omega), cutB_length]
  obtain ⟨ob, ot, ocap, ocs, rfl, hor, hoc⟩ := out_at hou HWL.out (by decide)
  have HOR := hid hor
  have HOC := hid hoc
  clear hdl hdv hou hor hoc 
  go_enter Salg.func24, Salg.ntmps24
  go_wp2_with (first
    | ((with_reducible apply L_box M); rfl; clear M; intro t15 w1 ht15 M; simp only [Act.put, List.setIfInBounds_toArray, List.set_cons_zero, List.set_cons_succ])
    | ((with_reducible apply W_loadCell); rfl; exact M.r0; exact rc0 _ _; exact Salg.underlying5; rfl; simp only [Act.put, List.setIfInBounds_toArray, List.set_cons_zero, List.set_cons_succ])
    | ((with_reducible apply W_make8 (n := 128) M); rfl; rfl; rfl; rfl; decide; exact Salg.underlying40; exact info5; clear M; intro b1 w2 hb1 M; simp only [Act.put, List.setIfInBounds_toArray, List.set_cons_zero, List.set_cons_succ]))
  go_loopw [52] (fun iv wr => ∃ i : Nat, i ≤ 128 ∧ iv = .int .i64 (i : Int) ∧ Mem w [] [(b1, R8 5 (ffs i ++ List.replicate (128 - i) 0)), (t15, .cells (rcL (n64 U) (.slice (some ⟨ob, 0, none⟩) 128 ocap)).toArray 65 (0, 0))] wr) (fun iv _ => (128 - intOf iv).toNat)
  case atStart => exact ⟨0, Nat.zero_le _, rfl, M⟩
  case round =>
    clear M
    obtain ⟨i, hi, rfl, M⟩ := hrel
    rcases Nat.lt_or_ge i 128 with hlt | hge
    · go_wp2_with ((with_reducible apply W_st8K (b := b1) (o := i) (m := 255)); rfl; rfl; rfl; exact M.r0; exact size5; (rw [List.length_append, ffs_length, List.length_replicate]; omega); intro w3 K hr3; replace M := Mem.callPut (L1 := []) M (Or.inr hb1) K hr3; clear K hr3; simp only [List.cons_append, List.nil_append] at M)
      rw [ffs_set hlt] at M
      go_roundw
      case rel => exact ⟨i + 1, by omega, by go_num, M⟩
      case measure => simp [intOf]; omega
    · have hin : i = 128 := by omega
      subst hin
      have e128 : ffs 128 ++ List.replicate (128 - 128) 0 = ffs 128 := by rw [Nat.sub_self, List.replicate_zero, List.append_nil]
      rw [e128] at M
      clear e128 hge hi
      go_wp2_with fail
      refine (laid_near b1 128 0 0 128 (ffs 128) dd _ _ M.r0 (ffs_length _) (by decide) (HDV.out.kept M.kept) (by rw [HDL.out]; omega) (by decide) (by decide)).mono ?_
      rintro e w5 ⟨bo, rfl, xbo, hbo, K⟩
      have HBO := hid xbo
      replace M := M.call K
      clear K xbo
      rw [HOV.out] at HBO
      go_wp2_with fail
      refine (laid_near bo 128 D s N (cutB dd 0 128) (cutB dd 0 128) _ _ HBO.out (cutB_length _ _ _) (by decide) (DatV.ofR8 (cutB_small HDV.out.1 _ _) (by decide) (cutB_length _ _ _) HBO.out) (by rw [cutB_length]; decide) (by omega) hs).mono ?_
      rintro e w6 ⟨bw, rfl, xbw, hbw, K⟩
      have HBW := hid xbw
      replace M := M.call K
      clear K xbw
      go_wp2_with (first
        | ((with_reducible apply W_loadCell); rfl; exact M.r1; exact rc1 _ _; exact Salg.underlying5; rfl; simp only [Act.put, List.setIfInBounds_toArray, List.set_cons_zero, List.set_cons_succ])
        | ((with_reducible apply W_loadCellG); rfl; rfl; exact M.r1; exact rc3 _ _; exact Salg.underlying40; rfl; simp only [Act.put, List.setIfInBounds_toArray, List.set_cons_zero, List.set_cons_succ]))
      refine (equalBytes_yes ob 0 ot bw 0 5 ocap 128 _ _ _ 128 _ (M.kept.row HOR.out (by simp)) HBW.out HOC.out (want_at _) HWL.out HSM.out).mono ?_
      rintro e w9 ⟨rfl, hw⟩
      replace hw := hw.symm
      subst hw
      go_wp2_with fail
      go_ret
      exact ⟨rfl, M.kept⟩

set_option maxHeartbeats 4000000 in
set_option maxRecDepth 100000 in
theorem holds_4f (D s N U : Nat) (p : Option Addr) (len cap : Nat) (dd pr : List Nat) (pv ou : Value) (w : World) (hD : D < 64) (hs : s < 64) (hN : N < 64) (hdl : dd.length = len) (hl96 : len ≤ 96) (hdv : DatV w (.slice p len cap) dd) (hou : NatV w ou (wrB (cutB dd 0 128) D (cutB (cutB dd 0 128) s N))) :
    Calls Salg.prog 24 #[n8 4, n8 D, n8 s, n8 N, .bool true, .slice p len cap, pv, .agg (rcL (n64 U) ou).toArray] w fun e w' => e = .returned (.bool true) ∧ Kept [] w w' := by
  have M := Mem.start w []
  have HDL := hid hdl
  have HDV := hid hdv
  have HOV : Hid (wrB (ffs 128) 0 (cutB dd 0 128) = cutB dd 0 128) := wrB_over (by rw [cutB_length, ffs_length])
  have HSM : Hid (Small (wrB (cutB dd 0 128) D (cutB (cutB dd 0 128) s N))) := wrB_small (cutB_small hdv.1 _ _) (cutB_small (cutB_small hdv.1 _ _) _ _)
  have HWL : Hid (((wrB (cutB dd 0 128) D (cutB (cutB dd 0 128) s N))).length = 128) := by show _ = _; rw [wrB_length (by rw [cutB_length, cutB_length]; omega), cutB_length]
  obtain ⟨ob, ot, ocap, ocs, rfl, hor, hoc⟩ := out_at hou HWL.out (by decide)
  have HOR := hid hor
  have HOC := hid hoc
  clear hdl hdv hou hor hoc 
  go_enter Salg.func24, Salg.ntmps24
  go_wp2_with (first
    | ((with_reducible apply L_box M); rfl; clear M; intro t15 w1 ht15 M; simp only [Act.put, List.setIfInBounds_toArray, List.set_cons_zero, List.set_cons_succ])
    | ((with_reducible apply W_loadCell); rfl; exact M.r0; exact rc0 _ _; exact Salg.underlying5; rfl; simp only [Act.put, List.setIfInBounds_toArray, List.set_cons_zero, List.set_cons_succ])
    | ((with_reducible apply W_make8 (n := 128) M); rfl; rfl; rfl; rfl; decide; exact Salg.underlying40; exact info5; clear M; intro b1 w2 hb1 M; simp only [Act.put, List.setIfInBounds_toArray, List.set_cons_zero, List.set_cons_succ]))
  go_loopw [52] (fun iv wr => ∃ i : Nat, i ≤ 128 ∧ iv = .int .i64 (i : Int) ∧ Mem w [] [(b1, R8 5 (ffs i ++ List.replicate (128 - i) 0)), (t15, .cells (rcL (n64 U) (.slice (some ⟨ob, 0, none⟩) 128 ocap)).toArray 65 (0, 0))] wr) (fun iv _ => (128 - intOf iv).toNat)
  case atStart => exact ⟨0, Nat.zero_le _, rfl, M⟩
  case round =>
    clear M
    obtain ⟨i, hi, rfl, M⟩ := hrel
    rcases Nat.lt_or_ge i 128 with hlt | hge
    · go_wp2_with ((with_reducible apply W_st8K (b := b1) (o := i) (m := 255)); rfl; rfl; rfl; exact M.r0; exact size5; (rw [List.length_append, ffs_length, List.length_replicate]; omega); intro w3 K hr3; replace M := Mem.callPut (L1 := []) M (Or.inr hb1) K hr3; clear K hr3; simp only [List.cons_append, List.nil_append] at M)
      rw [ffs_set hlt] at M
      go_roundw
      case rel => exact ⟨i + 1, by omega, by go_num, M⟩
      case measure => simp [intOf]; omega
    · have hin : i = 128 := by omega
      subst hin
      have e128 : ffs 128 ++ List.replicate (128 - 128) 0 = ffs 128 := by rw [Nat.sub_self, List.replicate_zero, List.append_nil]
      rw [e128] at M
      clear e128 hge hi
      go_wp2_with fail
      refine (laid_near b1 128 0 0 128 (ffs 128) dd _ _ M.r0 (ffs_length _) (by decide) (HDV.out.kept M.kept) (by rw [HDL.out]; omega) (by decide) (by decide)).mono ?_
      rintro e w5 ⟨bo, rfl, xbo, hbo, K⟩
      have HBO := hid xbo
      replace M := M.call K
      clear K xbo
      rw [HOV.out] at HBO
      go_wp2_with fail
      refine (laid_near bo 128 D s N (cutB dd 0 128) (cutB dd 0 128) _ _ HBO.out (cutB_length _ _ _) (by decide) (DatV.ofR8 (cutB_small HDV.out.1 _ _) (by decide) (cutB_length _ _ _) HBO.out) (by rw [cutB_length]; decide) (by omega) hs).mono ?_
      rintro e w6 ⟨bw, rfl, xbw, hbw, K⟩
      have HBW := hid xbw
      replace M := M.call K
      clear K xbw
      go_wp2_with (first
        | ((with_reducible apply W_loadCell); rfl; exact M.r1; exact rc1 _ _; exact Salg.underlying5; rfl; simp only [Act.put, List.setIfInBounds_toArray, List.set_cons_zero, List.set_cons_succ])
        | ((with_reducible apply W_loadCellG); rfl; rfl; exact M.r1; exact rc3 _ _; exact Salg.underlying40; rfl; simp only [Act.put, List.setIfInBounds_toArray, List.set_cons_zero, List.set_cons_succ]))
      refine (equalBytes_yes ob 0 ot bw 0 5 ocap 128 _ _ _ 128 _ (M.kept.row HOR.out (by simp)) HBW.out HOC.out (want_at _) HWL.out HSM.out).mono ?_
      rintro e w9 ⟨rfl, hw⟩
      replace hw := hw.symm
      subst hw
      go_wp2_with fail
      go_ret
      exact ⟨rfl, M.kept⟩

set_option maxHeartbeats 4000000 in
set_option maxRecDepth 100000 in
theorem holds_6 (D s N U : Nat) (p : Option Addr) (len cap : Nat) (dd pr : List Nat) (pv ou : Value) (w : World) (hD : D < 64) (hs : s < 64) (hN : N < 64) (hdl : dd.length = len) (hl96 : len ≤ 96) (hdv : DatV w (.slice p len cap) dd) (hou : NatV w ou (wrB (ffs 128) D (dd.take (min N len)))) :
    Calls Salg.prog 24 #[n8 6, n8 D, n8 s, n8 N, .bool false, .slice p len cap, pv, .agg (rcL (n64 U) ou).toArray] w fun e w' => e = .returned (.bool true) ∧ Kept [] w w' := by
  have M := Mem.start w []
  have HDL := hid hdl
  have HDV := hid hdv
  have HTK : Hid (cutB dd 0 (min N len) = dd.take (min N len)) := cutB_take (by rw [hdl]; exact Nat.min_le_right _ _)
  have HSM : Hid (Small (wrB (ffs 128) D (dd.take (min N len)))) := wrB_small (ffs_small _) (fun x hx => hdv.1 x (List.mem_of_mem_take hx))
  have HWL : Hid (((wrB (ffs 128) D (dd.take (min N len)))).length = 128) := by show _ = _; rw [wrB_length (by rw [List.length_take, ffs_length]; omega), ffs_length]
  obtain ⟨ob, ot, ocap, ocs, rfl, hor, hoc⟩ := out_at hou HWL.out (by decide)
  have HOR := hid hor
  have HOC := hid hoc
  clear hdl hdv hou hor hoc 
  go_enter Salg.func24, Salg.ntmps24
  go_wp2_with (first
    | ((with_reducible apply L_box M); rfl; clear M; intro t15 w1 ht15 M; simp only [Act.put, List.setIfInBounds_toArray, List.set_cons_zero, List.set_cons_succ])
    | ((with_reducible apply W_loadCell); rfl; exact M.r0; exact rc0 _ _; exact Salg.underlying5; rfl; simp only [Act.put, List.setIfInBounds_toArray, List.set_cons_zero, List.set_cons_succ])
    | ((with_reducible apply W_make8 (n := 128) M); rfl; rfl; rfl; rfl; decide; exact Salg.underlying40; exact info5; clear M; intro b1 w2 hb1 M; simp only [Act.put, List.setIfInBounds_toArray, List.set_cons_zero, List.set_cons_succ]))
  go_loopw [52] (fun iv wr => ∃ i : Nat, i ≤ 128 ∧ iv = .int .i64 (i : Int) ∧ Mem w [] [(b1, R8 5 (ffs i ++ List.replicate (128 - i) 0)), (t15, .cells (rcL (n64 U) (.slice (some ⟨ob, 0, none⟩) 128 ocap)).toArray 65 (0, 0))] wr) (fun iv _ => (128 - intOf iv).toNat)
  case atStart => exact ⟨0, Nat.zero_le _, rfl, M⟩
  case round =>
    clear M
    obtain ⟨i, hi, rfl, M⟩ := hrel
    rcases Nat.lt_or_ge i 128 with hlt | hge
    · go_wp2_with ((with_reducible apply W_st8K (b := b1) (o := i) (m := 255)); rfl; rfl; rfl; exact M.r0; exact size5; (rw [List.length_append, ffs_length, List.length_replicate]; omega); intro w3 K hr3; replace M := Mem.callPut (L1 := []) M (Or.inr hb1) K hr3; clear K hr3; simp only [List.cons_append, List.nil_append] at M)
      rw [ffs_set hlt] at M
      go_roundw
      case rel => exact ⟨i + 1, by omega, by go_num, M⟩
      case measure => simp [intOf]; omega
    · have hin : i = 128 := by omega
      subst hin
      have e128 : ffs 128 ++ List.replicate (128 - 128) 0 = ffs 128 := by rw [Nat.sub_self, List.replicate_zero, List.append_nil]
      rw [e128] at M
      clear e128 hge hi
      go_wp2_with ((with_reducible apply W_minI (k := min N len)); rfl; rfl; rfl; simp only [Act.put, List.setIfInBounds_toArray, List.set_cons_zero, List.set_cons_succ])
      refine (laid_near b1 128 D 0 (min N len) (ffs 128) dd _ _ M.r0 (ffs_length _) (by decide) (HDV.out.kept M.kept) (by rw [HDL.out]; omega) (by omega) (by decide)).mono ?_
      rintro e w5 ⟨bw, rfl, xbw, hbw, K⟩
      have HBW := hid xbw
      replace M := M.call K
      clear K xbw
      rw [HTK.out] at HBW
      go_wp2_with (first
        | ((with_reducible apply W_loadCell); rfl; exact M.r1; exact rc1 _ _; exact Salg.underlying5; rfl; simp only [Act.put, List.setIfInBounds_toArray, List.set_cons_zero, List.set_cons_succ])
        | ((with_reducible apply W_loadCellG); rfl; rfl; exact M.r1; exact rc3 _ _; exact Salg.underlying40; rfl; simp only [Act.put, List.setIfInBounds_toArray, List.set_cons_zero, List.set_cons_succ]))
      refine (equalBytes_yes ob 0 ot bw 0 5 ocap 128 _ _ _ 128 _ (M.kept.row HOR.out (by simp)) HBW.out HOC.out (want_at _) HWL.out HSM.out).mono ?_
      rintro e w9 ⟨rfl, hw⟩
      replace hw := hw.symm
      subst hw
      go_wp2_with fail
      go_ret
      exact ⟨rfl, M.kept⟩

set_option maxHeartbeats 4000000 in
set_option maxRecDepth 100000 in
theorem holds_6f (D s N U : Nat) (p : Option Addr) (len cap : Nat) (dd pr : List Nat) (pv ou : Value) (w : World) (hD : D < 64) (hs : s < 64) (hN : N < 64) (hdl : dd.length = len) (hl96 : len ≤ 96) (hdv : DatV w (.slice p len cap) dd) (hou : NatV w ou (wrB (ffs 128) D (dd.take (min N len)))) :
    Calls Salg.prog 24 #[n8 6, n8 D, n8 s, n8 N, .bool true, .slice p len cap, pv, .agg (rcL (n64 U) ou).toArray] w fun e w' => e = .returned (.bool true) ∧ Kept [] w w' := by
  have M := Mem.start w []
  have HDL := hid hdl
  have HDV := hid hdv
  have HTK : Hid (cutB dd 0 (min N len) = dd.take (min N len)) := cutB_take (by rw [hdl]; exact Nat.min_le_right _ _)
  have HSM : Hid (Small (wrB (ffs 128) D (dd.take (min N len)))) := wrB_small (ffs_small _) (fun x hx => hdv.1 x (List.mem_of_mem_take hx))
  have HWL : Hid (((wrB (ffs 128) D (dd.take (min N len)))).length = 128) := by show _ = _; rw [wrB_length (by rw [List.length_take, ffs_length]; omega), ffs_length]
  obtain ⟨ob, ot, ocap, ocs, rfl, hor, hoc⟩ := out_at hou HWL.out (by decide)
  have HOR := hid hor
  have HOC := hid hoc
  clear hdl hdv hou hor hoc 
  go_enter Salg.func24, Salg.ntmps24
  go_wp2_with (first
    | ((with_reducible apply L_box M); rfl; clear M; intro t15 w1 ht15 M; simp only [Act.put, List.setIfInBounds_toArray, List.set_cons_zero, List.set_cons_succ])
    | ((with_reducible apply W_loadCell); rfl; exact M.r0; exact rc0 _ _; exact Salg.underlying5; rfl; simp only [Act.put, List.setIfInBounds_toArray, List.set_cons_zero, List.set_cons_succ])
    | ((with_reducible apply W_make8 (n := 128) M); rfl; rfl; rfl; rfl; decide; exact Salg.underlying40; exact info5; clear M; intro b1 w2 hb1 M; simp only [Act.put, List.setIfInBounds_toArray, List.set_cons_zero, List.set_cons_succ]))
  go_loopw [52] (fun iv wr => ∃ i : Nat, i ≤ 128 ∧ iv = .int .i64 (i : Int) ∧ Mem w [] [(b1, R8 5 (ffs i ++ List.replicate (128 - i) 0)), (t15, .cells (rcL (n64 U) (.slice (some ⟨ob, 0, none⟩) 128 ocap)).toArray 65 (0, 0))] wr) (fun iv _ => (128 - intOf iv).toNat)
  case atStart => exact ⟨0, Nat.zero_le _, rfl, M⟩
  case round =>
    clear M
    obtain ⟨i, hi, rfl, M⟩ := hrel
    rcases Nat.lt_or_ge i 128 with hlt | hge
    · go_wp2_with ((with_reducible apply W_st8K (b := b1) (o := i) (m := 255)); rfl; rfl; rfl; exact M.r0; exact size5; (rw [List.length_append, ffs_length, List.length_replicate]; omega); intro w3 K hr3; replace M := Mem.callPut (L1 := []) M (Or.inr hb1) K hr3; clear K hr3; simp only [List.cons_append, List.nil_append] at M)
      rw [ffs_set hlt] at M
      go_roundw
      case rel => exact ⟨i + 1, by omega, by go_num, M⟩
      case measure => simp [intOf]; omega
    · have hin : i = 128 := by omega
      subst hin
      have e128 : ffs 128 ++ List.replicate (128 - 128) 0 = ffs 128 := by rw [Nat.sub_self, List.replicate_zero, List.append_nil]
      rw [e128] at M
      clear e128 hge hi
      go_wp2_with ((with_reducible apply W_minI (k := min N len)); rfl; rfl; rfl; simp only [Act.put, List.setIfInBounds_toArray, List.set_cons_zero, List.set_cons_succ])
      refine (laid_near b1 128 D 0 (min N len) (ffs 128) dd _ _ M.r0 (ffs_length _) (by decide) (HDV.out.kept M.kept) (by rw [HDL.out]; omega) (by omega) (by decide)).mono ?_
      rintro e w5 ⟨bw, rfl, xbw, hbw, K⟩
      have HBW := hid xbw
      replace M := M.call K
      clear K xbw
      rw [HTK.out] at HBW
      go_wp2_with (first
        | ((with_reducible apply W_loadCell); rfl; exact M.r1; exact rc1 _ _; exact Salg.underlying5; rfl; simp only [Act.put, List.setIfInBounds_toArray, List.set_cons_zero, List.set_cons_succ])
        | ((with_reducible apply W_loadCellG); rfl; rfl; exact M.r1; exact rc3 _ _; exact Salg.underlying40; rfl; simp only [Act.put, List.setIfInBounds_toArray, List.set_cons_zero, List.set_cons_succ]))
      refine (equalBytes_yes ob 0 ot bw 0 5 ocap 128 _ _ _ 128 _ (M.kept.row HOR.out (by simp)) HBW.out HOC.out (want_at _) HWL.out HSM.out).mono ?_
      rintro e w9 ⟨rfl, hw⟩
      replace hw := hw.symm
      subst hw
      go_wp2_with fail
      go_ret
      exact ⟨rfl, M.kept⟩
end Go.Proofs.YgcsalGreat

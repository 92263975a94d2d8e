/-
  The walk of (*yp.Chain).Step, its parts given, on a frame off the memory's blocks.
-/
import Derived.Test.YgcsalGreatCp2
set_option linter.unusedSimpArgs false
set_option linter.unusedVariables false
namespace Go.Proofs.YgcsalGreat
open Go.RowKit Go.Own

set_option maxHeartbeats 4000000 in
set_option maxRecDepth 100000 in
theorem stepM_plain1 (S : List Nat) (rr c fb m G k U fam s A0 A1 o : Nat) (cs fs0 : Array Value) (cap : Nat) (ns : List Nat) (cv mv : Value) (ds : List Nat) (F2 Post : World → Prop) (F3 : Value → World → Prop) (w : World) (ho : o ≠ 0 ∧ o ≠ 243 ∧ o ≠ 253 ∧ o ≠ 255) (hc : w.heap[c]? = some (.cells cs 119 (0, 0))) (h9 : cs[9]? = some (.slice (some ⟨fb, 0, none⟩) 1 cap)) (h11 : cs[11]? = some (.int .u8 1)) (hS : ∀ b ∈ S, b < w.heap.size) (hF : FrameM S rr w fb 0 fs0 m G ns mv) (hcv : NatV w cv ds) (hm : ds[m]? = some o) (hl : ds.length ≤ 1000) (hfc : FrD fs0 0 cv) (hkG : k ≤ G) (hG : G < 256 ^ 200)
    (hRef : ∀ w', Kept [] w w' → Calls Salg.prog 111 #[.pointer (some ⟨c, 0, none⟩), .pointer (some ⟨fb, 0, none⟩), .int .u8 o] w' fun e w'' => ∃ r, e = .returned (.tuple #[.int .u8 0, r]) ∧ NumV w'' r k ∧ Kept [] w' w'')
    (hRe : ∀ w', Kept [fb] w w' → FrameM S rr w' fb 0 fs0 m (G - k) ns mv → Calls Salg.prog 114 #[.pointer (some ⟨fb, 0, none⟩), .int .u8 o] w' fun e w'' => ∃ r, e = .returned r ∧ NumV w'' r U ∧ Kept [] w' w'')
    (hGr : ∀ w' r, Kept [fb] w w' → FrameM S rr w' fb 0 fs0 m (G - k) ns mv → NumV w' r U → Calls Salg.prog 113 #[.pointer (some ⟨fb, 0, none⟩), r] w' fun e w'' => ∃ r', e = .returned r' ∧ F2 w'' ∧ Kept [fb] w' w'')
    (hfam : ∀ w', Calls Salg.prog 118 #[.int .u8 o] w' fun e w'' => e = .returned (.int .u8 fam) ∧ w'' = w') (hf : fam ≠ 16)
    (hPl : ∀ w', Kept [fb] w w' → F2 w' → Calls Salg.prog 120 #[.pointer (some ⟨c, 0, none⟩), .pointer (some ⟨fb, 0, none⟩), .int .u8 o] w' fun e w'' => ∃ r, e = .returned r ∧ Post w'')
    : Calls Salg.prog 27 #[.pointer (some ⟨c, 0, none⟩)] w fun e w' => e = .returned (.bool true) ∧ Post w' := by
  have M := Mem.start w []
  obtain ⟨fs, pv, gv, sv, xs, hr, hsz, hfs, h3, hpv, h4, hgv, h8, hsv, hxs, hmv, hbo⟩ := hF
  have HBO := hid hbo
  have HS := hid hS
  clear hbo hS
  have hxl := hxs.1
  obtain ⟨p, n, cp, rfl⟩ := rowV_slice hsv
  obtain rfl : n = xs.length := by
    rcases hsv with ⟨e, e2⟩ | ⟨g, cap, cur, e, _⟩
    · cases e; subst e2; rfl
    · cases e; rfl
  have hnb := hid (not_bytes_at (tc := 142) h8)
  have z4 : 0 + 4 < fs.size := (Array.getElem?_eq_some_iff.1 h4).1
  have g1 := (hfs (0 + 1) (by decide) (by decide) (by decide) (by decide)).trans hfc.f1
  have g10 := (hfs (0 + 10) (by decide) (by decide) (by decide) (by decide)).trans hfc.f10
  have HSZ := hid hsz
  have HFS := hid hfs
  have HGV := hid hgv
  have HCV := hid hcv
  have HSV := hid hsv
  have HXS := hid hxs
  have HPV := hid hpv
  have HRF := hid hRef
  obtain ⟨o0, o1, o2, o3⟩ := ho
  have d0 : decide ((o : Int) = 0) = false := by simp; omega
  have e0 : decide (o = 0) = false := by simp; omega
  have d243 : decide ((o : Int) = 243) = false := by simp; omega
  have e243 : decide (o = 243) = false := by simp; omega
  have d253 : decide ((o : Int) = 253) = false := by simp; omega
  have e253 : decide (o = 253) = false := by simp; omega
  have d255 : decide ((o : Int) = 255) = false := by simp; omega
  have e255 : decide (o = 255) = false := by simp; omega
  have df : decide ((fam : Int) = 16) = false := by simp; omega
  have ef : decide (fam = 16) = false := by simp; omega
  have HREx := hid hRe
  have HGRx := hid hGr
  have HFAMx := hid hfam
  have HPLx := hid hPl
  clear hfs hgv hcv hsv hxs hpv hRef hsz hRe hGr hfam hPl
  go_enter Salg.func27, Salg.ntmps27
  go_wp2_with (first
    | ((with_reducible apply W_loadCell); rfl; exact M.kept.row hc (by simp); exact h11; exact Salg.underlying5; rfl; simp only [Act.put, List.setIfInBounds_toArray, List.set_cons_zero, List.set_cons_succ])
    | ((with_reducible apply W_loadCellG); rfl; rfl; exact M.kept.row hc (by simp); exact h9; exact Salg.underlying115; rfl; simp only [Act.put, List.setIfInBounds_toArray, List.set_cons_zero, List.set_cons_succ]))
  refine S_region (by kernel_rfl) ?_
  refine E_stage 0 12 [0, 1, 2, 3, 4, 5, 6, 7, 8, 9, 10, 11] (by kernel_rfl) M.drew ?_
  clear M
  simp only [List.filterMap_cons, List.filterMap_nil, List.getElem?_cons_zero, List.getElem?_cons_succ]
  ((with_reducible apply E_run); rfl; rfl; (intro w M; go_simp; (try go_ints); (try simp only [↓IntWalk.iteOmega]); (try with_reducible rfl)); simp only [Act.put, List.setIfInBounds_toArray, List.set_cons_zero, List.set_cons_succ])
  ((with_reducible apply E_run); rfl; rfl; (intro w M; go_simp; (try go_ints); (try simp only [↓IntWalk.iteOmega]); (try with_reducible rfl)); simp only [Act.put, List.setIfInBounds_toArray, List.set_cons_zero, List.set_cons_succ])
  ((with_reducible apply E_run); rfl; rfl; (intro w M; go_simp; (try go_ints); (try simp only [↓IntWalk.iteOmega]); (try with_reducible rfl)); simp only [Act.put, List.setIfInBounds_toArray, List.set_cons_zero, List.set_cons_succ])
  ((with_reducible apply E_run); rfl; rfl; (intro w M; exact run_loadCell (M.kept.row hc (by simp)) rfl h9 Salg.underlying115 rfl); simp only [Act.put, List.setIfInBounds_toArray, List.set_cons_zero, List.set_cons_succ])
  ((with_reducible apply E_run); rfl; rfl; (intro w M; go_simp; (try go_ints); (try simp only [↓IntWalk.iteOmega]); (try with_reducible rfl)); simp only [Act.put, List.setIfInBounds_toArray, List.set_cons_zero, List.set_cons_succ])
  ((with_reducible apply E_run); rfl; rfl; (intro w M; go_simp; (try go_ints); (try simp only [↓IntWalk.iteOmega]); (try with_reducible rfl)); simp only [Act.put, List.setIfInBounds_toArray, List.set_cons_zero, List.set_cons_succ])
  ((with_reducible apply E_run); rfl; rfl; (intro w M; go_simp; (try go_ints); (try simp only [↓IntWalk.iteOmega]); (try with_reducible rfl)); simp only [Act.put, List.setIfInBounds_toArray, List.set_cons_zero, List.set_cons_succ])
  ((with_reducible apply E_run); rfl; rfl; (intro w M; exact run_loadCell (M.kept.row hc (by simp)) rfl h9 Salg.underlying115 rfl); simp only [Act.put, List.setIfInBounds_toArray, List.set_cons_zero, List.set_cons_succ])
  ((with_reducible apply E_run); rfl; rfl; (intro w M; go_simp; (try go_ints); (try simp only [↓IntWalk.iteOmega]); (try with_reducible rfl)); simp only [Act.put, List.setIfInBounds_toArray, List.set_cons_zero, List.set_cons_succ])
  ((with_reducible apply E_run); rfl; rfl; (intro w M; go_simp; (try go_ints); (try simp only [↓IntWalk.iteOmega]); (try with_reducible rfl)); simp only [Act.put, List.setIfInBounds_toArray, List.set_cons_zero, List.set_cons_succ])
  ((with_reducible apply E_run); rfl; rfl; (intro w M; go_simp; (try go_ints); (try simp only [↓IntWalk.iteOmega]); (try with_reducible rfl)); simp only [Act.put, List.setIfInBounds_toArray, List.set_cons_zero, List.set_cons_succ])
  ((with_reducible apply E_run); rfl; rfl; (intro w M; go_simp; (try go_ints); (try simp only [↓IntWalk.iteOmega]); (try with_reducible rfl)); simp only [Act.put, List.setIfInBounds_toArray, List.set_cons_zero, List.set_cons_succ])
  refine E_nil ?_
  intro w9 K M
  clear K
  refine S_done ?_
  go_wp2_with ((with_reducible apply W_loadCell); rfl; exact M.kept.row hr (by simp); exact g1; exact Salg.underlying5; rfl; simp only [Act.put, List.setIfInBounds_toArray, List.set_cons_zero, List.set_cons_succ])
  refine (opcode_q fb 0 m o fs pv cv ds _ (M.kept.row hr (by simp)) h3 g10 (HPV.out.num.kept M.kept) (HCV.out.kept M.kept) hm hl).mono ?_
  rintro e w1 ⟨rfl, K⟩
  replace M := M.call K
  clear K
  go_wp2_with fail
  refine (HRF.out _ M.kept).mono ?_
  rintro e w2 ⟨r, rfl, xHR, K⟩
  have HR := hid xHR
  replace M := M.call K
  clear K xHR
  go_wp2_with ((with_reducible apply W_loadCell); rfl; exact M.kept.row hr (by simp); exact h4; exact Salg.underlying89; rfl; simp only [Act.put, List.setIfInBounds_toArray, List.set_cons_zero, List.set_cons_succ])
  have hsl := M.kept.size
  refine (less_fresh gv r G k _ (HGV.out.num.kept M.kept) HR.out hG hkG).mono ?_
  rintro e w3 ⟨r2, rfl, xHR2, K⟩
  have HR2 := hid xHR2
  replace M := M.call K
  clear K xHR2
  have hrow := M.kept.row hr (by simp)
  go_wp2_with ((with_reducible apply W_stV (b := fb) (o := 0 + 4) (v := r2)); rfl; rfl; exact HR2.out.one; exact hrow; exact size89; exact z4; intro w4 K1 hr4)
  have HK := hid ((M.kept.mono (by simp)).trans K1 : Kept [fb] w w4)
  have HF : Hid (FrameM S rr w4 fb 0 fs0 m (G - k) ns mv) := by
    have KK := HK.out
    exact ⟨_, pv, r2, .slice p xs.length cp, xs, hr4, (Array.size_setIfInBounds).trans HSZ.out, fun j j3 j4 j8 j9 => (Array.getElem?_setIfInBounds_ne (by omega)).trans (HFS.out j j3 j4 j8 j9), (Array.getElem?_setIfInBounds_ne (by decide)).trans h3, HPV.out.keptC KK hr hnb.out, Array.getElem?_setIfInBounds_self_of_lt z4, (HR2.out.off fun b hb => Nat.lt_of_lt_of_le (HS.out b hb) hsl).keptC K1 hrow hnb.out, (Array.getElem?_setIfInBounds_ne (by decide)).trans h8, HSV.out.keptC KK hr (by decide), HXS.out.keptC KK hr hnb.out, (Array.getElem?_setIfInBounds_ne (by decide)).trans hmv, fun j v N e1 e2 e3 => (HBO.out j v N e1 e2 e3).keptC KK hr hnb.out⟩
  clear M K1 hr4 hrow
  go_wp2_with fail
  refine (HREx.out _ HK.out HF.out).mono ?_
  rintro e w5 ⟨r3, rfl, x3, K⟩
  have HR3 := hid x3
  replace HF := hid (HF.out.kept K)
  replace HK := hid (HK.out.trans (K.mono (by simp)))
  clear x3 K
  go_wp2_with fail
  refine (HGRx.out _ r3 HK.out HF.out HR3.out).mono ?_
  rintro e w6 ⟨r4, rfl, x4, K⟩
  have HF2 := hid x4
  replace HK := hid (HK.out.trans K)
  clear x4 K HF HR3
  go_wp2_with fail
  refine (HFAMx.out _).mono ?_
  rintro e w7 ⟨rfl, hw⟩
  replace hw := hw.symm
  subst hw
  go_wp2_with fail
  refine (HPLx.out _ HK.out HF2.out).mono ?_
  rintro e w8 ⟨r5, rfl, xF⟩
  have HP2 := hid xF
  clear xF
  go_wp2_with fail
  go_ret
  exact ⟨rfl, HP2.out⟩

set_option maxHeartbeats 4000000 in
set_option maxRecDepth 100000 in
theorem stepM_plain2 (S : List Nat) (rr c fb m G k U fam s A0 A1 o : Nat) (cs fs0 : Array Value) (cap : Nat) (ns : List Nat) (cv mv : Value) (ds : List Nat) (F2 Post : World → Prop) (F3 : Value → World → Prop) (w : World) (ho : o ≠ 0 ∧ o ≠ 243 ∧ o ≠ 253 ∧ o ≠ 255) (hc : w.heap[c]? = some (.cells cs 119 (0, 0))) (h9 : cs[9]? = some (.slice (some ⟨fb, 0, none⟩) 2 cap)) (h11 : cs[11]? = some (.int .u8 1)) (hS : ∀ b ∈ S, b < w.heap.size) (hF : FrameM S rr w fb 60 fs0 m G ns mv) (hcv : NatV w cv ds) (hm : ds[m]? = some o) (hl : ds.length ≤ 1000) (hfc : FrD fs0 60 cv) (hkG : k ≤ G) (hG : G < 256 ^ 200)
    (hRef : ∀ w', Kept [] w w' → Calls Salg.prog 111 #[.pointer (some ⟨c, 0, none⟩), .pointer (some ⟨fb, 60, none⟩), .int .u8 o] w' fun e w'' => ∃ r, e = .returned (.tuple #[.int .u8 0, r]) ∧ NumV w'' r k ∧ Kept [] w' w'')
    (hRe : ∀ w', Kept [fb] w w' → FrameM S rr w' fb 60 fs0 m (G - k) ns mv → Calls Salg.prog 114 #[.pointer (some ⟨fb, 60, none⟩), .int .u8 o] w' fun e w'' => ∃ r, e = .returned r ∧ NumV w'' r U ∧ Kept [] w' w'')
    (hGr : ∀ w' r, Kept [fb] w w' → FrameM S rr w' fb 60 fs0 m (G - k) ns mv → NumV w' r U → Calls Salg.prog 113 #[.pointer (some ⟨fb, 60, none⟩), r] w' fun e w'' => ∃ r', e = .returned r' ∧ F2 w'' ∧ Kept [fb] w' w'')
    (hfam : ∀ w', Calls Salg.prog 118 #[.int .u8 o] w' fun e w'' => e = .returned (.int .u8 fam) ∧ w'' = w') (hf : fam ≠ 16)
    (hPl : ∀ w', Kept [fb] w w' → F2 w' → Calls Salg.prog 120 #[.pointer (some ⟨c, 0, none⟩), .pointer (some ⟨fb, 60, none⟩), .int .u8 o] w' fun e w'' => ∃ r, e = .returned r ∧ Post w'')
    : Calls Salg.prog 27 #[.pointer (some ⟨c, 0, none⟩)] w fun e w' => e = .returned (.bool true) ∧ Post w' := by
  have M := Mem.start w []
  obtain ⟨fs, pv, gv, sv, xs, hr, hsz, hfs, h3, hpv, h4, hgv, h8, hsv, hxs, hmv, hbo⟩ := hF
  have HBO := hid hbo
  have HS := hid hS
  clear hbo hS
  have hxl := hxs.1
  obtain ⟨p, n, cp, rfl⟩ := rowV_slice hsv
  obtain rfl : n = xs.length := by
    rcases hsv with ⟨e, e2⟩ | ⟨g, cap, cur, e, _⟩
    · cases e; subst e2; rfl
    · cases e; rfl
  have hnb := hid (not_bytes_at (tc := 142) h8)
  have z4 : 60 + 4 < fs.size := (Array.getElem?_eq_some_iff.1 h4).1
  have g1 := (hfs (60 + 1) (by decide) (by decide) (by decide) (by decide)).trans hfc.f1
  have g10 := (hfs (60 + 10) (by decide) (by decide) (by decide) (by decide)).trans hfc.f10
  have HSZ := hid hsz
  have HFS := hid hfs
  have HGV := hid hgv
  have HCV := hid hcv
  have HSV := hid hsv
  have HXS := hid hxs
  have HPV := hid hpv
  have HRF := hid hRef
  obtain ⟨o0, o1, o2, o3⟩ := ho
  have d0 : decide ((o : Int) = 0) = false := by simp; omega
  have e0 : decide (o = 0) = false := by simp; omega
  have d243 : decide ((o : Int) = 243) = false := by simp; omega
  have e243 : decide (o = 243) = false := by simp; omega
  have d253 : decide ((o : Int) = 253) = false := by simp; omega
  have e253 : decide (o = 253) = false := by simp; omega
  have d255 : decide ((o : Int) = 255) = false := by simp; omega
  have e255 : decide (o = 255) = false := by simp; omega
  have df : decide ((fam : Int) = 16) = false := by simp; omega
  have ef : decide (fam = 16) = false := by simp; omega
  have HREx := hid hRe
  have HGRx := hid hGr
  have HFAMx := hid hfam
  have HPLx := hid hPl
  clear hfs hgv hcv hsv hxs hpv hRef hsz hRe hGr hfam hPl
  go_enter Salg.func27, Salg.ntmps27
  go_wp2_with (first
    | ((with_reducible apply W_loadCell); rfl; exact M.kept.row hc (by simp); exact h11; exact Salg.underlying5; rfl; simp only [Act.put, List.setIfInBounds_toArray, List.set_cons_zero, List.set_cons_succ])
    | ((with_reducible apply W_loadCellG); rfl; rfl; exact M.kept.row hc (by simp); exact h9; exact Salg.underlying115; rfl; simp only [Act.put, List.setIfInBounds_toArray, List.set_cons_zero, List.set_cons_succ]))
  refine S_region (by kernel_rfl) ?_
  refine E_stage 0 12 [0, 1, 2, 3, 4, 5, 6, 7, 8, 9, 10, 11] (by kernel_rfl) M.drew ?_
  clear M
  simp only [List.filterMap_cons, List.filterMap_nil, List.getElem?_cons_zero, List.getElem?_cons_succ]
  ((with_reducible apply E_run); rfl; rfl; (intro w M; go_simp; (try go_ints); (try simp only [↓IntWalk.iteOmega]); (try with_reducible rfl)); simp only [Act.put, List.setIfInBounds_toArray, List.set_cons_zero, List.set_cons_succ])
  ((with_reducible apply E_run); rfl; rfl; (intro w M; go_simp; (try go_ints); (try simp only [↓IntWalk.iteOmega]); (try with_reducible rfl)); simp only [Act.put, List.setIfInBounds_toArray, List.set_cons_zero, List.set_cons_succ])
  ((with_reducible apply E_run); rfl; rfl; (intro w M; go_simp; (try go_ints); (try simp only [↓IntWalk.iteOmega]); (try with_reducible rfl)); simp only [Act.put, List.setIfInBounds_toArray, List.set_cons_zero, List.set_cons_succ])
  ((with_reducible apply E_run); rfl; rfl; (intro w M; exact run_loadCell (M.kept.row hc (by simp)) rfl h9 Salg.underlying115 rfl); simp only [Act.put, List.setIfInBounds_toArray, List.set_cons_zero, List.set_cons_succ])
  ((with_reducible apply E_run); rfl; rfl; (intro w M; go_simp; (try go_ints); (try simp only [↓IntWalk.iteOmega]); (try with_reducible rfl)); simp only [Act.put, List.setIfInBounds_toArray, List.set_cons_zero, List.set_cons_succ])
  ((with_reducible apply E_run); rfl; rfl; (intro w M; go_simp; (try go_ints); (try simp only [↓IntWalk.iteOmega]); (try with_reducible rfl)); simp only [Act.put, List.setIfInBounds_toArray, List.set_cons_zero, List.set_cons_succ])
  ((with_reducible apply E_run); rfl; rfl; (intro w M; go_simp; (try go_ints); (try simp only [↓IntWalk.iteOmega]); (try with_reducible rfl)); simp only [Act.put, List.setIfInBounds_toArray, List.set_cons_zero, List.set_cons_succ])
  ((with_reducible apply E_run); rfl; rfl; (intro w M; exact run_loadCell (M.kept.row hc (by simp)) rfl h9 Salg.underlying115 rfl); simp only [Act.put, List.setIfInBounds_toArray, List.set_cons_zero, List.set_cons_succ])
  ((with_reducible apply E_run); rfl; rfl; (intro w M; go_simp; (try go_ints); (try simp only [↓IntWalk.iteOmega]); (try with_reducible rfl)); simp only [Act.put, List.setIfInBounds_toArray, List.set_cons_zero, List.set_cons_succ])
  ((with_reducible apply E_run); rfl; rfl; (intro w M; go_simp; (try go_ints); (try simp only [↓IntWalk.iteOmega]); (try with_reducible rfl)); simp only [Act.put, List.setIfInBounds_toArray, List.set_cons_zero, List.set_cons_succ])
  ((with_reducible apply E_run); rfl; rfl; (intro w M; go_simp; (try go_ints); (try simp only [↓IntWalk.iteOmega]); (try with_reducible rfl)); simp only [Act.put, List.setIfInBounds_toArray, List.set_cons_zero, List.set_cons_succ])
  ((with_reducible apply E_run); rfl; rfl; (intro w M; go_simp; (try go_ints); (try simp only [↓IntWalk.iteOmega]); (try with_reducible rfl)); simp only [Act.put, List.setIfInBounds_toArray, List.set_cons_zero, List.set_cons_succ])
  refine E_nil ?_
  intro w9 K M
  clear K
  refine S_done ?_
  go_wp2_with ((with_reducible apply W_loadCell); rfl; exact M.kept.row hr (by simp); exact g1; exact Salg.underlying5; rfl; simp only [Act.put, List.setIfInBounds_toArray, List.set_cons_zero, List.set_cons_succ])
  refine (opcode_q fb 60 m o fs pv cv ds _ (M.kept.row hr (by simp)) h3 g10 (HPV.out.num.kept M.kept) (HCV.out.kept M.kept) hm hl).mono ?_
  rintro e w1 ⟨rfl, K⟩
  replace M := M.call K
  clear K
  go_wp2_with fail
  refine (HRF.out _ M.kept).mono ?_
  rintro e w2 ⟨r, rfl, xHR, K⟩
  have HR := hid xHR
  replace M := M.call K
  clear K xHR
  go_wp2_with ((with_reducible apply W_loadCell); rfl; exact M.kept.row hr (by simp); exact h4; exact Salg.underlying89; rfl; simp only [Act.put, List.setIfInBounds_toArray, List.set_cons_zero, List.set_cons_succ])
  have hsl := M.kept.size
  refine (less_fresh gv r G k _ (HGV.out.num.kept M.kept) HR.out hG hkG).mono ?_
  rintro e w3 ⟨r2, rfl, xHR2, K⟩
  have HR2 := hid xHR2
  replace M := M.call K
  clear K xHR2
  have hrow := M.kept.row hr (by simp)
  go_wp2_with ((with_reducible apply W_stV (b := fb) (o := 60 + 4) (v := r2)); rfl; rfl; exact HR2.out.one; exact hrow; exact size89; exact z4; intro w4 K1 hr4)
  have HK := hid ((M.kept.mono (by simp)).trans K1 : Kept [fb] w w4)
  have HF : Hid (FrameM S rr w4 fb 60 fs0 m (G - k) ns mv) := by
    have KK := HK.out
    exact ⟨_, pv, r2, .slice p xs.length cp, xs, hr4, (Array.size_setIfInBounds).trans HSZ.out, fun j j3 j4 j8 j9 => (Array.getElem?_setIfInBounds_ne (by omega)).trans (HFS.out j j3 j4 j8 j9), (Array.getElem?_setIfInBounds_ne (by decide)).trans h3, HPV.out.keptC KK hr hnb.out, Array.getElem?_setIfInBounds_self_of_lt z4, (HR2.out.off fun b hb => Nat.lt_of_lt_of_le (HS.out b hb) hsl).keptC K1 hrow hnb.out, (Array.getElem?_setIfInBounds_ne (by decide)).trans h8, HSV.out.keptC KK hr (by decide), HXS.out.keptC KK hr hnb.out, (Array.getElem?_setIfInBounds_ne (by decide)).trans hmv, fun j v N e1 e2 e3 => (HBO.out j v N e1 e2 e3).keptC KK hr hnb.out⟩
  clear M K1 hr4 hrow
  go_wp2_with fail
  refine (HREx.out _ HK.out HF.out).mono ?_
  rintro e w5 ⟨r3, rfl, x3, K⟩
  have HR3 := hid x3
  replace HF := hid (HF.out.kept K)
  replace HK := hid (HK.out.trans (K.mono (by simp)))
  clear x3 K
  go_wp2_with fail
  refine (HGRx.out _ r3 HK.out HF.out HR3.out).mono ?_
  rintro e w6 ⟨r4, rfl, x4, K⟩
  have HF2 := hid x4
  replace HK := hid (HK.out.trans K)
  clear x4 K HF HR3
  go_wp2_with fail
  refine (HFAMx.out _).mono ?_
  rintro e w7 ⟨rfl, hw⟩
  replace hw := hw.symm
  subst hw
  go_wp2_with fail
  refine (HPLx.out _ HK.out HF2.out).mono ?_
  rintro e w8 ⟨r5, rfl, xF⟩
  have HP2 := hid xF
  clear xF
  go_wp2_with fail
  go_ret
  exact ⟨rfl, HP2.out⟩

set_option maxHeartbeats 4000000 in
set_option maxRecDepth 100000 in
theorem stepM_plain3 (S : List Nat) (rr c fb m G k U fam s A0 A1 o : Nat) (cs fs0 : Array Value) (cap : Nat) (ns : List Nat) (cv mv : Value) (ds : List Nat) (F2 Post : World → Prop) (F3 : Value → World → Prop) (w : World) (ho : o ≠ 0 ∧ o ≠ 243 ∧ o ≠ 253 ∧ o ≠ 255) (hc : w.heap[c]? = some (.cells cs 119 (0, 0))) (h9 : cs[9]? = some (.slice (some ⟨fb, 0, none⟩) 3 cap)) (h11 : cs[11]? = some (.int .u8 1)) (hS : ∀ b ∈ S, b < w.heap.size) (hF : FrameM S rr w fb 120 fs0 m G ns mv) (hcv : NatV w cv ds) (hm : ds[m]? = some o) (hl : ds.length ≤ 1000) (hfc : FrD fs0 120 cv) (hkG : k ≤ G) (hG : G < 256 ^ 200)
    (hRef : ∀ w', Kept [] w w' → Calls Salg.prog 111 #[.pointer (some ⟨c, 0, none⟩), .pointer (some ⟨fb, 120, none⟩), .int .u8 o] w' fun e w'' => ∃ r, e = .returned (.tuple #[.int .u8 0, r]) ∧ NumV w'' r k ∧ Kept [] w' w'')
    (hRe : ∀ w', Kept [fb] w w' → FrameM S rr w' fb 120 fs0 m (G - k) ns mv → Calls Salg.prog 114 #[.pointer (some ⟨fb, 120, none⟩), .int .u8 o] w' fun e w'' => ∃ r, e = .returned r ∧ NumV w'' r U ∧ Kept [] w' w'')
    (hGr : ∀ w' r, Kept [fb] w w' → FrameM S rr w' fb 120 fs0 m (G - k) ns mv → NumV w' r U → Calls Salg.prog 113 #[.pointer (some ⟨fb, 120, none⟩), r] w' fun e w'' => ∃ r', e = .returned r' ∧ F2 w'' ∧ Kept [fb] w' w'')
    (hfam : ∀ w', Calls Salg.prog 118 #[.int .u8 o] w' fun e w'' => e = .returned (.int .u8 fam) ∧ w'' = w') (hf : fam ≠ 16)
    (hPl : ∀ w', Kept [fb] w w' → F2 w' → Calls Salg.prog 120 #[.pointer (some ⟨c, 0, none⟩), .pointer (some ⟨fb, 120, none⟩), .int .u8 o] w' fun e w'' => ∃ r, e = .returned r ∧ Post w'')
    : Calls Salg.prog 27 #[.pointer (some ⟨c, 0, none⟩)] w fun e w' => e = .returned (.bool true) ∧ Post w' := by
  have M := Mem.start w []
  obtain ⟨fs, pv, gv, sv, xs, hr, hsz, hfs, h3, hpv, h4, hgv, h8, hsv, hxs, hmv, hbo⟩ := hF
  have HBO := hid hbo
  have HS := hid hS
  clear hbo hS
  have hxl := hxs.1
  obtain ⟨p, n, cp, rfl⟩ := rowV_slice hsv
  obtain rfl : n = xs.length := by
    rcases hsv with ⟨e, e2⟩ | ⟨g, cap, cur, e, _⟩
    · cases e; subst e2; rfl
    · cases e; rfl
  have hnb := hid (not_bytes_at (tc := 142) h8)
  have z4 : 120 + 4 < fs.size := (Array.getElem?_eq_some_iff.1 h4).1
  have g1 := (hfs (120 + 1) (by decide) (by decide) (by decide) (by decide)).trans hfc.f1
  have g10 := (hfs (120 + 10) (by decide) (by decide) (by decide) (by decide)).trans hfc.f10
  have HSZ := hid hsz
  have HFS := hid hfs
  have HGV := hid hgv
  have HCV := hid hcv
  have HSV := hid hsv
  have HXS := hid hxs
  have HPV := hid hpv
  have HRF := hid hRef
  obtain ⟨o0, o1, o2, o3⟩ := ho
  have d0 : decide ((o : Int) = 0) = false := by simp; omega
  have e0 : decide (o = 0) = false := by simp; omega
  have d243 : decide ((o : Int) = 243) = false := by simp; omega
  have e243 : decide (o = 243) = false := by simp; omega
  have d253 : decide ((o : Int) = 253) = false := by simp; omega
  have e253 : decide (o = 253) = false := by simp; omega
  have d255 : decide ((o : Int) = 255) = false := by simp; omega
  have e255 : decide (o = 255) = false := by simp; omega
  have df : decide ((fam : Int) = 16) = false := by simp; omega
  have ef : decide (fam = 16) = false := by simp; omega
  have HREx := hid hRe
  have HGRx := hid hGr
  have HFAMx := hid hfam
  have HPLx := hid hPl
  clear hfs hgv hcv hsv hxs hpv hRef hsz hRe hGr hfam hPl
  go_enter Salg.func27, Salg.ntmps27
  go_wp2_with (first
    | ((with_reducible apply W_loadCell); rfl; exact M.kept.row hc (by simp); exact h11; exact Salg.underlying5; rfl; simp only [Act.put, List.setIfInBounds_toArray, List.set_cons_zero, List.set_cons_succ])
    | ((with_reducible apply W_loadCellG); rfl; rfl; exact M.kept.row hc (by simp); exact h9; exact Salg.underlying115; rfl; simp only [Act.put, List.setIfInBounds_toArray, List.set_cons_zero, List.set_cons_succ]))
  refine S_region (by kernel_rfl) ?_
  refine E_stage 0 12 [0, 1, 2, 3, 4, 5, 6, 7, 8, 9, 10, 11] (by kernel_rfl) M.drew ?_
  clear M
  simp only [List.filterMap_cons, List.filterMap_nil, List.getElem?_cons_zero, List.getElem?_cons_succ]
  ((with_reducible apply E_run); rfl; rfl; (intro w M; go_simp; (try go_ints); (try simp only [↓IntWalk.iteOmega]); (try with_reducible rfl)); simp only [Act.put, List.setIfInBounds_toArray, List.set_cons_zero, List.set_cons_succ])
  ((with_reducible apply E_run); rfl; rfl; (intro w M; go_simp; (try go_ints); (try simp only [↓IntWalk.iteOmega]); (try with_reducible rfl)); simp only [Act.put, List.setIfInBounds_toArray, List.set_cons_zero, List.set_cons_succ])
  ((with_reducible apply E_run); rfl; rfl; (intro w M; go_simp; (try go_ints); (try simp only [↓IntWalk.iteOmega]); (try with_reducible rfl)); simp only [Act.put, List.setIfInBounds_toArray, List.set_cons_zero, List.set_cons_succ])
  ((with_reducible apply E_run); rfl; rfl; (intro w M; exact run_loadCell (M.kept.row hc (by simp)) rfl h9 Salg.underlying115 rfl); simp only [Act.put, List.setIfInBounds_toArray, List.set_cons_zero, List.set_cons_succ])
  ((with_reducible apply E_run); rfl; rfl; (intro w M; go_simp; (try go_ints); (try simp only [↓IntWalk.iteOmega]); (try with_reducible rfl)); simp only [Act.put, List.setIfInBounds_toArray, List.set_cons_zero, List.set_cons_succ])
  ((with_reducible apply E_run); rfl; rfl; (intro w M; go_simp; (try go_ints); (try simp only [↓IntWalk.iteOmega]); (try with_reducible rfl)); simp only [Act.put, List.setIfInBounds_toArray, List.set_cons_zero, List.set_cons_succ])
  ((with_reducible apply E_run); rfl; rfl; (intro w M; go_simp; (try go_ints); (try simp only [↓IntWalk.iteOmega]); (try with_reducible rfl)); simp only [Act.put, List.setIfInBounds_toArray, List.set_cons_zero, List.set_cons_succ])
  ((with_reducible apply E_run); rfl; rfl; (intro w M; exact run_loadCell (M.kept.row hc (by simp)) rfl h9 Salg.underlying115 rfl); simp only [Act.put, List.setIfInBounds_toArray, List.set_cons_zero, List.set_cons_succ])
  ((with_reducible apply E_run); rfl; rfl; (intro w M; go_simp; (try go_ints); (try simp only [↓IntWalk.iteOmega]); (try with_reducible rfl)); simp only [Act.put, List.setIfInBounds_toArray, List.set_cons_zero, List.set_cons_succ])
  ((with_reducible apply E_run); rfl; rfl; (intro w M; go_simp; (try go_ints); (try simp only [↓IntWalk.iteOmega]); (try with_reducible rfl)); simp only [Act.put, List.setIfInBounds_toArray, List.set_cons_zero, List.set_cons_succ])
  ((with_reducible apply E_run); rfl; rfl; (intro w M; go_simp; (try go_ints); (try simp only [↓IntWalk.iteOmega]); (try with_reducible rfl)); simp only [Act.put, List.setIfInBounds_toArray, List.set_cons_zero, List.set_cons_succ])
  ((with_reducible apply E_run); rfl; rfl; (intro w M; go_simp; (try go_ints); (try simp only [↓IntWalk.iteOmega]); (try with_reducible rfl)); simp only [Act.put, List.setIfInBounds_toArray, List.set_cons_zero, List.set_cons_succ])
  refine E_nil ?_
  intro w9 K M
  clear K
  refine S_done ?_
  go_wp2_with ((with_reducible apply W_loadCell); rfl; exact M.kept.row hr (by simp); exact g1; exact Salg.underlying5; rfl; simp only [Act.put, List.setIfInBounds_toArray, List.set_cons_zero, List.set_cons_succ])
  refine (opcode_q fb 120 m o fs pv cv ds _ (M.kept.row hr (by simp)) h3 g10 (HPV.out.num.kept M.kept) (HCV.out.kept M.kept) hm hl).mono ?_
  rintro e w1 ⟨rfl, K⟩
  replace M := M.call K
  clear K
  go_wp2_with fail
  refine (HRF.out _ M.kept).mono ?_
  rintro e w2 ⟨r, rfl, xHR, K⟩
  have HR := hid xHR
  replace M := M.call K
  clear K xHR
  go_wp2_with ((with_reducible apply W_loadCell); rfl; exact M.kept.row hr (by simp); exact h4; exact Salg.underlying89; rfl; simp only [Act.put, List.setIfInBounds_toArray, List.set_cons_zero, List.set_cons_succ])
  have hsl := M.kept.size
  refine (less_fresh gv r G k _ (HGV.out.num.kept M.kept) HR.out hG hkG).mono ?_
  rintro e w3 ⟨r2, rfl, xHR2, K⟩
  have HR2 := hid xHR2
  replace M := M.call K
  clear K xHR2
  have hrow := M.kept.row hr (by simp)
  go_wp2_with ((with_reducible apply W_stV (b := fb) (o := 120 + 4) (v := r2)); rfl; rfl; exact HR2.out.one; exact hrow; exact size89; exact z4; intro w4 K1 hr4)
  have HK := hid ((M.kept.mono (by simp)).trans K1 : Kept [fb] w w4)
  have HF : Hid (FrameM S rr w4 fb 120 fs0 m (G - k) ns mv) := by
    have KK := HK.out
    exact ⟨_, pv, r2, .slice p xs.length cp, xs, hr4, (Array.size_setIfInBounds).trans HSZ.out, fun j j3 j4 j8 j9 => (Array.getElem?_setIfInBounds_ne (by omega)).trans (HFS.out j j3 j4 j8 j9), (Array.getElem?_setIfInBounds_ne (by decide)).trans h3, HPV.out.keptC KK hr hnb.out, Array.getElem?_setIfInBounds_self_of_lt z4, (HR2.out.off fun b hb => Nat.lt_of_lt_of_le (HS.out b hb) hsl).keptC K1 hrow hnb.out, (Array.getElem?_setIfInBounds_ne (by decide)).trans h8, HSV.out.keptC KK hr (by decide), HXS.out.keptC KK hr hnb.out, (Array.getElem?_setIfInBounds_ne (by decide)).trans hmv, fun j v N e1 e2 e3 => (HBO.out j v N e1 e2 e3).keptC KK hr hnb.out⟩
  clear M K1 hr4 hrow
  go_wp2_with fail
  refine (HREx.out _ HK.out HF.out).mono ?_
  rintro e w5 ⟨r3, rfl, x3, K⟩
  have HR3 := hid x3
  replace HF := hid (HF.out.kept K)
  replace HK := hid (HK.out.trans (K.mono (by simp)))
  clear x3 K
  go_wp2_with fail
  refine (HGRx.out _ r3 HK.out HF.out HR3.out).mono ?_
  rintro e w6 ⟨r4, rfl, x4, K⟩
  have HF2 := hid x4
  replace HK := hid (HK.out.trans K)
  clear x4 K HF HR3
  go_wp2_with fail
  refine (HFAMx.out _).mono ?_
  rintro e w7 ⟨rfl, hw⟩
  replace hw := hw.symm
  subst hw
  go_wp2_with fail
  refine (HPLx.out _ HK.out HF2.out).mono ?_
  rintro e w8 ⟨r5, rfl, xF⟩
  have HP2 := hid xF
  clear xF
  go_wp2_with fail
  go_ret
  exact ⟨rfl, HP2.out⟩

set_option maxHeartbeats 4000000 in
set_option maxRecDepth 100000 in
theorem stepM_enter1 (S : List Nat) (rr c fb m G k U fam s A0 A1 o : Nat) (cs fs0 : Array Value) (cap : Nat) (ns : List Nat) (cv mv : Value) (ds : List Nat) (F2 Post : World → Prop) (F3 : Value → World → Prop) (w : World) (ho : o ≠ 0 ∧ o ≠ 243 ∧ o ≠ 253 ∧ o ≠ 255) (hc : w.heap[c]? = some (.cells cs 119 (0, 0))) (h9 : cs[9]? = some (.slice (some ⟨fb, 0, none⟩) 1 cap)) (h11 : cs[11]? = some (.int .u8 1)) (hS : ∀ b ∈ S, b < w.heap.size) (hF : FrameM S rr w fb 0 fs0 m G ns mv) (hcv : NatV w cv ds) (hm : ds[m]? = some o) (hl : ds.length ≤ 1000) (hfc : FrD fs0 0 cv) (hkG : k ≤ G) (hG : G < 256 ^ 200)
    (hRef : ∀ w', Kept [] w w' → Calls Salg.prog 111 #[.pointer (some ⟨c, 0, none⟩), .pointer (some ⟨fb, 0, none⟩), .int .u8 o] w' fun e w'' => ∃ r, e = .returned (.tuple #[.int .u8 0, r]) ∧ NumV w'' r k ∧ Kept [] w' w'')
    (hRe : ∀ w', Kept [fb] w w' → FrameM S rr w' fb 0 fs0 m (G - k) ns mv → Calls Salg.prog 114 #[.pointer (some ⟨fb, 0, none⟩), .int .u8 o] w' fun e w'' => ∃ r, e = .returned r ∧ NumV w'' r U ∧ Kept [] w' w'')
    (hGr : ∀ w' r, Kept [fb] w w' → FrameM S rr w' fb 0 fs0 m (G - k) ns mv → NumV w' r U → Calls Salg.prog 113 #[.pointer (some ⟨fb, 0, none⟩), r] w' fun e w'' => ∃ r', e = .returned r' ∧ F2 w'' ∧ Kept [fb] w' w'')
    (hfam : ∀ w', Calls Salg.prog 118 #[.int .u8 o] w' fun e w'' => e = .returned (.int .u8 fam) ∧ w'' = w') (hf : fam = 16)
    (hPl : ∀ w', Kept [fb] w w' → F2 w' → Calls Salg.prog 119 #[.pointer (some ⟨c, 0, none⟩), .pointer (some ⟨fb, 0, none⟩), .int .u8 o] w' fun e w'' => ∃ r, e = .returned r ∧ Post w'')
    : Calls Salg.prog 27 #[.pointer (some ⟨c, 0, none⟩)] w fun e w' => e = .returned (.bool true) ∧ Post w' := by
  have M := Mem.start w []
  obtain ⟨fs, pv, gv, sv, xs, hr, hsz, hfs, h3, hpv, h4, hgv, h8, hsv, hxs, hmv, hbo⟩ := hF
  have HBO := hid hbo
  have HS := hid hS
  clear hbo hS
  have hxl := hxs.1
  obtain ⟨p, n, cp, rfl⟩ := rowV_slice hsv
  obtain rfl : n = xs.length := by
    rcases hsv with ⟨e, e2⟩ | ⟨g, cap, cur, e, _⟩
    · cases e; subst e2; rfl
    · cases e; rfl
  have hnb := hid (not_bytes_at (tc := 142) h8)
  have z4 : 0 + 4 < fs.size := (Array.getElem?_eq_some_iff.1 h4).1
  have g1 := (hfs (0 + 1) (by decide) (by decide) (by decide) (by decide)).trans hfc.f1
  have g10 := (hfs (0 + 10) (by decide) (by decide) (by decide) (by decide)).trans hfc.f10
  have HSZ := hid hsz
  have HFS := hid hfs
  have HGV := hid hgv
  have HCV := hid hcv
  have HSV := hid hsv
  have HXS := hid hxs
  have HPV := hid hpv
  have HRF := hid hRef
  obtain ⟨o0, o1, o2, o3⟩ := ho
  have d0 : decide ((o : Int) = 0) = false := by simp; omega
  have e0 : decide (o = 0) = false := by simp; omega
  have d243 : decide ((o : Int) = 243) = false := by simp; omega
  have e243 : decide (o = 243) = false := by simp; omega
  have d253 : decide ((o : Int) = 253) = false := by simp; omega
  have e253 : decide (o = 253) = false := by simp; omega
  have d255 : decide ((o : Int) = 255) = false := by simp; omega
  have e255 : decide (o = 255) = false := by simp; omega
  subst hf
  have HREx := hid hRe
  have HGRx := hid hGr
  have HFAMx := hid hfam
  have HPLx := hid hPl
  clear hfs hgv hcv hsv hxs hpv hRef hsz hRe hGr hfam hPl
  go_enter Salg.func27, Salg.ntmps27
  go_wp2_with (first
    | ((with_reducible apply W_loadCell); rfl; exact M.kept.row hc (by simp); exact h11; exact Salg.underlying5; rfl; simp only [Act.put, List.setIfInBounds_toArray, List.set_cons_zero, List.set_cons_succ])
    | ((with_reducible apply W_loadCellG); rfl; rfl; exact M.kept.row hc (by simp); exact h9; exact Salg.underlying115; rfl; simp only [Act.put, List.setIfInBounds_toArray, List.set_cons_zero, List.set_cons_succ]))
  refine S_region (by kernel_rfl) ?_
  refine E_stage 0 12 [0, 1, 2, 3, 4, 5, 6, 7, 8, 9, 10, 11] (by kernel_rfl) M.drew ?_
  clear M
  simp only [List.filterMap_cons, List.filterMap_nil, List.getElem?_cons_zero, List.getElem?_cons_succ]
  ((with_reducible apply E_run); rfl; rfl; (intro w M; go_simp; (try go_ints); (try simp only [↓IntWalk.iteOmega]); (try with_reducible rfl)); simp only [Act.put, List.setIfInBounds_toArray, List.set_cons_zero, List.set_cons_succ])
  ((with_reducible apply E_run); rfl; rfl; (intro w M; go_simp; (try go_ints); (try simp only [↓IntWalk.iteOmega]); (try with_reducible rfl)); simp only [Act.put, List.setIfInBounds_toArray, List.set_cons_zero, List.set_cons_succ])
  ((with_reducible apply E_run); rfl; rfl; (intro w M; go_simp; (try go_ints); (try simp only [↓IntWalk.iteOmega]); (try with_reducible rfl)); simp only [Act.put, List.setIfInBounds_toArray, List.set_cons_zero, List.set_cons_succ])
  ((with_reducible apply E_run); rfl; rfl; (intro w M; exact run_loadCell (M.kept.row hc (by simp)) rfl h9 Salg.underlying115 rfl); simp only [Act.put, List.setIfInBounds_toArray, List.set_cons_zero, List.set_cons_succ])
  ((with_reducible apply E_run); rfl; rfl; (intro w M; go_simp; (try go_ints); (try simp only [↓IntWalk.iteOmega]); (try with_reducible rfl)); simp only [Act.put, List.setIfInBounds_toArray, List.set_cons_zero, List.set_cons_succ])
  ((with_reducible apply E_run); rfl; rfl; (intro w M; go_simp; (try go_ints); (try simp only [↓IntWalk.iteOmega]); (try with_reducible rfl)); simp only [Act.put, List.setIfInBounds_toArray, List.set_cons_zero, List.set_cons_succ])
  ((with_reducible apply E_run); rfl; rfl; (intro w M; go_simp; (try go_ints); (try simp only [↓IntWalk.iteOmega]); (try with_reducible rfl)); simp only [Act.put, List.setIfInBounds_toArray, List.set_cons_zero, List.set_cons_succ])
  ((with_reducible apply E_run); rfl; rfl; (intro w M; exact run_loadCell (M.kept.row hc (by simp)) rfl h9 Salg.underlying115 rfl); simp only [Act.put, List.setIfInBounds_toArray, List.set_cons_zero, List.set_cons_succ])
  ((with_reducible apply E_run); rfl; rfl; (intro w M; go_simp; (try go_ints); (try simp only [↓IntWalk.iteOmega]); (try with_reducible rfl)); simp only [Act.put, List.setIfInBounds_toArray, List.set_cons_zero, List.set_cons_succ])
  ((with_reducible apply E_run); rfl; rfl; (intro w M; go_simp; (try go_ints); (try simp only [↓IntWalk.iteOmega]); (try with_reducible rfl)); simp only [Act.put, List.setIfInBounds_toArray, List.set_cons_zero, List.set_cons_succ])
  ((with_reducible apply E_run); rfl; rfl; (intro w M; go_simp; (try go_ints); (try simp only [↓IntWalk.iteOmega]); (try with_reducible rfl)); simp only [Act.put, List.setIfInBounds_toArray, List.set_cons_zero, List.set_cons_succ])
  ((with_reducible apply E_run); rfl; rfl; (intro w M; go_simp; (try go_ints); (try simp only [↓IntWalk.iteOmega]); (try with_reducible rfl)); simp only [Act.put, List.setIfInBounds_toArray, List.set_cons_zero, List.set_cons_succ])
  refine E_nil ?_
  intro w9 K M
  clear K
  refine S_done ?_
  go_wp2_with ((with_reducible apply W_loadCell); rfl; exact M.kept.row hr (by simp); exact g1; exact Salg.underlying5; rfl; simp only [Act.put, List.setIfInBounds_toArray, List.set_cons_zero, List.set_cons_succ])
  refine (opcode_q fb 0 m o fs pv cv ds _ (M.kept.row hr (by simp)) h3 g10 (HPV.out.num.kept M.kept) (HCV.out.kept M.kept) hm hl).mono ?_
  rintro e w1 ⟨rfl, K⟩
  replace M := M.call K
  clear K
  go_wp2_with fail
  refine (HRF.out _ M.kept).mono ?_
  rintro e w2 ⟨r, rfl, xHR, K⟩
  have HR := hid xHR
  replace M := M.call K
  clear K xHR
  go_wp2_with ((with_reducible apply W_loadCell); rfl; exact M.kept.row hr (by simp); exact h4; exact Salg.underlying89; rfl; simp only [Act.put, List.setIfInBounds_toArray, List.set_cons_zero, List.set_cons_succ])
  have hsl := M.kept.size
  refine (less_fresh gv r G k _ (HGV.out.num.kept M.kept) HR.out hG hkG).mono ?_
  rintro e w3 ⟨r2, rfl, xHR2, K⟩
  have HR2 := hid xHR2
  replace M := M.call K
  clear K xHR2
  have hrow := M.kept.row hr (by simp)
  go_wp2_with ((with_reducible apply W_stV (b := fb) (o := 0 + 4) (v := r2)); rfl; rfl; exact HR2.out.one; exact hrow; exact size89; exact z4; intro w4 K1 hr4)
  have HK := hid ((M.kept.mono (by simp)).trans K1 : Kept [fb] w w4)
  have HF : Hid (FrameM S rr w4 fb 0 fs0 m (G - k) ns mv) := by
    have KK := HK.out
    exact ⟨_, pv, r2, .slice p xs.length cp, xs, hr4, (Array.size_setIfInBounds).trans HSZ.out, fun j j3 j4 j8 j9 => (Array.getElem?_setIfInBounds_ne (by omega)).trans (HFS.out j j3 j4 j8 j9), (Array.getElem?_setIfInBounds_ne (by decide)).trans h3, HPV.out.keptC KK hr hnb.out, Array.getElem?_setIfInBounds_self_of_lt z4, (HR2.out.off fun b hb => Nat.lt_of_lt_of_le (HS.out b hb) hsl).keptC K1 hrow hnb.out, (Array.getElem?_setIfInBounds_ne (by decide)).trans h8, HSV.out.keptC KK hr (by decide), HXS.out.keptC KK hr hnb.out, (Array.getElem?_setIfInBounds_ne (by decide)).trans hmv, fun j v N e1 e2 e3 => (HBO.out j v N e1 e2 e3).keptC KK hr hnb.out⟩
  clear M K1 hr4 hrow
  go_wp2_with fail
  refine (HREx.out _ HK.out HF.out).mono ?_
  rintro e w5 ⟨r3, rfl, x3, K⟩
  have HR3 := hid x3
  replace HF := hid (HF.out.kept K)
  replace HK := hid (HK.out.trans (K.mono (by simp)))
  clear x3 K
  go_wp2_with fail
  refine (HGRx.out _ r3 HK.out HF.out HR3.out).mono ?_
  rintro e w6 ⟨r4, rfl, x4, K⟩
  have HF2 := hid x4
  replace HK := hid (HK.out.trans K)
  clear x4 K HF HR3
  go_wp2_with fail
  refine (HFAMx.out _).mono ?_
  rintro e w7 ⟨rfl, hw⟩
  replace hw := hw.symm
  subst hw
  go_wp2_with fail
  refine (HPLx.out _ HK.out HF2.out).mono ?_
  rintro e w8 ⟨r5, rfl, xF⟩
  have HP2 := hid xF
  clear xF
  go_wp2_with fail
  go_ret
  exact ⟨rfl, HP2.out⟩

set_option maxHeartbeats 4000000 in
set_option maxRecDepth 100000 in
theorem stepM_enter2 (S : List Nat) (rr c fb m G k U fam s A0 A1 o : Nat) (cs fs0 : Array Value) (cap : Nat) (ns : List Nat) (cv mv : Value) (ds : List Nat) (F2 Post : World → Prop) (F3 : Value → World → Prop) (w : World) (ho : o ≠ 0 ∧ o ≠ 243 ∧ o ≠ 253 ∧ o ≠ 255) (hc : w.heap[c]? = some (.cells cs 119 (0, 0))) (h9 : cs[9]? = some (.slice (some ⟨fb, 0, none⟩) 2 cap)) (h11 : cs[11]? = some (.int .u8 1)) (hS : ∀ b ∈ S, b < w.heap.size) (hF : FrameM S rr w fb 60 fs0 m G ns mv) (hcv : NatV w cv ds) (hm : ds[m]? = some o) (hl : ds.length ≤ 1000) (hfc : FrD fs0 60 cv) (hkG : k ≤ G) (hG : G < 256 ^ 200)
    (hRef : ∀ w', Kept [] w w' → Calls Salg.prog 111 #[.pointer (some ⟨c, 0, none⟩), .pointer (some ⟨fb, 60, none⟩), .int .u8 o] w' fun e w'' => ∃ r, e = .returned (.tuple #[.int .u8 0, r]) ∧ NumV w'' r k ∧ Kept [] w' w'')
    (hRe : ∀ w', Kept [fb] w w' → FrameM S rr w' fb 60 fs0 m (G - k) ns mv → Calls Salg.prog 114 #[.pointer (some ⟨fb, 60, none⟩), .int .u8 o] w' fun e w'' => ∃ r, e = .returned r ∧ NumV w'' r U ∧ Kept [] w' w'')
    (hGr : ∀ w' r, Kept [fb] w w' → FrameM S rr w' fb 60 fs0 m (G - k) ns mv → NumV w' r U → Calls Salg.prog 113 #[.pointer (some ⟨fb, 60, none⟩), r] w' fun e w'' => ∃ r', e = .returned r' ∧ F2 w'' ∧ Kept [fb] w' w'')
    (hfam : ∀ w', Calls Salg.prog 118 #[.int .u8 o] w' fun e w'' => e = .returned (.int .u8 fam) ∧ w'' = w') (hf : fam = 16)
    (hPl : ∀ w', Kept [fb] w w' → F2 w' → Calls Salg.prog 119 #[.pointer (some ⟨c, 0, none⟩), .pointer (some ⟨fb, 60, none⟩), .int .u8 o] w' fun e w'' => ∃ r, e = .returned r ∧ Post w'')
    : Calls Salg.prog 27 #[.pointer (some ⟨c, 0, none⟩)] w fun e w' => e = .returned (.bool true) ∧ Post w' := by
  have M := Mem.start w []
  obtain ⟨fs, pv, gv, sv, xs, hr, hsz, hfs, h3, hpv, h4, hgv, h8, hsv, hxs, hmv, hbo⟩ := hF
  have HBO := hid hbo
  have HS := hid hS
  clear hbo hS
  have hxl := hxs.1
  obtain ⟨p, n, cp, rfl⟩ := rowV_slice hsv
  obtain rfl : n = xs.length := by
    rcases hsv with ⟨e, e2⟩ | ⟨g, cap, cur, e, _⟩
    · cases e; subst e2; rfl
    · cases e; rfl
  have hnb := hid (not_bytes_at (tc := 142) h8)
  have z4 : 60 + 4 < fs.size := (Array.getElem?_eq_some_iff.1 h4).1
  have g1 := (hfs (60 + 1) (by decide) (by decide) (by decide) (by decide)).trans hfc.f1
  have g10 := (hfs (60 + 10) (by decide) (by decide) (by decide) (by decide)).trans hfc.f10
  have HSZ := hid hsz
  have HFS := hid hfs
  have HGV := hid hgv
  have HCV := hid hcv
  have HSV := hid hsv
  have HXS := hid hxs
  have HPV := hid hpv
  have HRF := hid hRef
  obtain ⟨o0, o1, o2, o3⟩ := ho
  have d0 : decide ((o : Int) = 0) = false := by simp; omega
  have e0 : decide (o = 0) = false := by simp; omega
  have d243 : decide ((o : Int) = 243) = false := by simp; omega
  have e243 : decide (o = 243) = false := by simp; omega
  have d253 : decide ((o : Int) = 253) = false := by simp; omega
  have e253 : decide (o = 253) = false := by simp; omega
  have d255 : decide ((o : Int) = 255) = false := by simp; omega
  have e255 : decide (o = 255) = false := by simp; omega
  subst hf
  have HREx := hid hRe
  have HGRx := hid hGr
  have HFAMx := hid hfam
  have HPLx := hid hPl
  clear hfs hgv hcv hsv hxs hpv hRef hsz hRe hGr hfam hPl
  go_enter Salg.func27, Salg.ntmps27
  go_wp2_with (first
    | ((with_reducible apply W_loadCell); rfl; exact M.kept.row hc (by simp); exact h11; exact Salg.underlying5; rfl; simp only [Act.put, List.setIfInBounds_toArray, List.set_cons_zero, List.set_cons_succ])
    | ((with_reducible apply W_loadCellG); rfl; rfl; exact M.kept.row hc (by simp); exact h9; exact Salg.underlying115; rfl; simp only [Act.put, List.setIfInBounds_toArray, List.set_cons_zero, List.set_cons_succ]))
  refine S_region (by kernel_rfl) ?_
  refine E_stage 0 12 [0, 1, 2, 3, 4, 5, 6, 7, 8, 9, 10, 11] (by kernel_rfl) M.drew ?_
  clear M
  simp only [List.filterMap_cons, List.filterMap_nil, List.getElem?_cons_zero, List.getElem?_cons_succ]
  ((with_reducible apply E_run); rfl; rfl; (intro w M; go_simp; (try go_ints); (try simp only [↓IntWalk.iteOmega]); (try with_reducible rfl)); simp only [Act.put, List.setIfInBounds_toArray, List.set_cons_zero, List.set_cons_succ])
  ((with_reducible apply E_run); rfl; rfl; (intro w M; go_simp; (try go_ints); (try simp only [↓IntWalk.iteOmega]); (try with_reducible rfl)); simp only [Act.put, List.setIfInBounds_toArray, List.set_cons_zero, List.set_cons_succ])
  ((with_reducible apply E_run); rfl; rfl; (intro w M; go_simp; (try go_ints); (try simp only [↓IntWalk.iteOmega]); (try with_reducible rfl)); simp only [Act.put, List.setIfInBounds_toArray, List.set_cons_zero, List.set_cons_succ])
  ((with_reducible apply E_run); rfl; rfl; (intro w M; exact run_loadCell (M.kept.row hc (by simp)) rfl h9 Salg.underlying115 rfl); simp only [Act.put, List.setIfInBounds_toArray, List.set_cons_zero, List.set_cons_succ])
  ((with_reducible apply E_run); rfl; rfl; (intro w M; go_simp; (try go_ints); (try simp only [↓IntWalk.iteOmega]); (try with_reducible rfl)); simp only [Act.put, List.setIfInBounds_toArray, List.set_cons_zero, List.set_cons_succ])
  ((with_reducible apply E_run); rfl; rfl; (intro w M; go_simp; (try go_ints); (try simp only [↓IntWalk.iteOmega]); (try with_reducible rfl)); simp only [Act.put, List.setIfInBounds_toArray, List.set_cons_zero, List.set_cons_succ])
  ((with_reducible apply E_run); rfl; rfl; (intro w M; go_simp; (try go_ints); (try simp only [↓IntWalk.iteOmega]); (try with_reducible rfl)); simp only [Act.put, List.setIfInBounds_toArray, List.set_cons_zero, List.set_cons_succ])
  ((with_reducible apply E_run); rfl; rfl; (intro w M; exact run_loadCell (M.kept.row hc (by simp)) rfl h9 Salg.underlying115 rfl); simp only [Act.put, List.setIfInBounds_toArray, List.set_cons_zero, List.set_cons_succ])
  ((with_reducible apply E_run); rfl; rfl; (intro w M; go_simp; (try go_ints); (try simp only [↓IntWalk.iteOmega]); (try with_reducible rfl)); simp only [Act.put, List.setIfInBounds_toArray, List.set_cons_zero, List.set_cons_succ])
  ((with_reducible apply E_run); rfl; rfl; (intro w M; go_simp; (try go_ints); (try simp only [↓IntWalk.iteOmega]); (try with_reducible rfl)); simp only [Act.put, List.setIfInBounds_toArray, List.set_cons_zero, List.set_cons_succ])
  ((with_reducible apply E_run); rfl; rfl; (intro w M; go_simp; (try go_ints); (try simp only [↓IntWalk.iteOmega]); (try with_reducible rfl)); simp only [Act.put, List.setIfInBounds_toArray, List.set_cons_zero, List.set_cons_succ])
  ((with_reducible apply E_run); rfl; rfl; (intro w M; go_simp; (try go_ints); (try simp only [↓IntWalk.iteOmega]); (try with_reducible rfl)); simp only [Act.put, List.setIfInBounds_toArray, List.set_cons_zero, List.set_cons_succ])
  refine E_nil ?_
  intro w9 K M
  clear K
  refine S_done ?_
  go_wp2_with ((with_reducible apply W_loadCell); rfl; exact M.kept.row hr (by simp); exact g1; exact Salg.underlying5; rfl; simp only [Act.put, List.setIfInBounds_toArray, List.set_cons_zero, List.set_cons_succ])
  refine (opcode_q fb 60 m o fs pv cv ds _ (M.kept.row hr (by simp)) h3 g10 (HPV.out.num.kept M.kept) (HCV.out.kept M.kept) hm hl).mono ?_
  rintro e w1 ⟨rfl, K⟩
  replace M := M.call K
  clear K
  go_wp2_with fail
  refine (HRF.out _ M.kept).mono ?_
  rintro e w2 ⟨r, rfl, xHR, K⟩
  have HR := hid xHR
  replace M := M.call K
  clear K xHR
  go_wp2_with ((with_reducible apply W_loadCell); rfl; exact M.kept.row hr (by simp); exact h4; exact Salg.underlying89; rfl; simp only [Act.put, List.setIfInBounds_toArray, List.set_cons_zero, List.set_cons_succ])
  have hsl := M.kept.size
  refine (less_fresh gv r G k _ (HGV.out.num.kept M.kept) HR.out hG hkG).mono ?_
  rintro e w3 ⟨r2, rfl, xHR2, K⟩
  have HR2 := hid xHR2
  replace M := M.call K
  clear K xHR2
  have hrow := M.kept.row hr (by simp)
  go_wp2_with ((with_reducible apply W_stV (b := fb) (o := 60 + 4) (v := r2)); rfl; rfl; exact HR2.out.one; exact hrow; exact size89; exact z4; intro w4 K1 hr4)
  have HK := hid ((M.kept.mono (by simp)).trans K1 : Kept [fb] w w4)
  have HF : Hid (FrameM S rr w4 fb 60 fs0 m (G - k) ns mv) := by
    have KK := HK.out
    exact ⟨_, pv, r2, .slice p xs.length cp, xs, hr4, (Array.size_setIfInBounds).trans HSZ.out, fun j j3 j4 j8 j9 => (Array.getElem?_setIfInBounds_ne (by omega)).trans (HFS.out j j3 j4 j8 j9), (Array.getElem?_setIfInBounds_ne (by decide)).trans h3, HPV.out.keptC KK hr hnb.out, Array.getElem?_setIfInBounds_self_of_lt z4, (HR2.out.off fun b hb => Nat.lt_of_lt_of_le (HS.out b hb) hsl).keptC K1 hrow hnb.out, (Array.getElem?_setIfInBounds_ne (by decide)).trans h8, HSV.out.keptC KK hr (by decide), HXS.out.keptC KK hr hnb.out, (Array.getElem?_setIfInBounds_ne (by decide)).trans hmv, fun j v N e1 e2 e3 => (HBO.out j v N e1 e2 e3).keptC KK hr hnb.out⟩
  clear M K1 hr4 hrow
  go_wp2_with fail
  refine (HREx.out _ HK.out HF.out).mono ?_
  rintro e w5 ⟨r3, rfl, x3, K⟩
  have HR3 := hid x3
  replace HF := hid (HF.out.kept K)
  replace HK := hid (HK.out.trans (K.mono (by simp)))
  clear x3 K
  go_wp2_with fail
  refine (HGRx.out _ r3 HK.out HF.out HR3.out).mono ?_
  rintro e w6 ⟨r4, rfl, x4, K⟩
  have HF2 := hid x4
  replace HK := hid (HK.out.trans K)
  clear x4 K HF HR3
  go_wp2_with fail
  refine (HFAMx.out _).mono ?_
  rintro e w7 ⟨rfl, hw⟩
  replace hw := hw.symm
  subst hw
  go_wp2_with fail
  refine (HPLx.out _ HK.out HF2.out).mono ?_
  rintro e w8 ⟨r5, rfl, xF⟩
  have HP2 := hid xF
  clear xF
  go_wp2_with fail
  go_ret
  exact ⟨rfl, HP2.out⟩

set_option maxHeartbeats 4000000 in
set_option maxRecDepth 100000 in
theorem stepM_return1 (S : List Nat) (rr c fb m G k U fam s A0 A1 : Nat) (cs fs0 : Array Value) (cap : Nat) (ns : List Nat) (cv mv : Value) (ds : List Nat) (F2 Post : World → Prop) (F3 : Value → World → Prop) (w : World) (hc : w.heap[c]? = some (.cells cs 119 (0, 0))) (h9 : cs[9]? = some (.slice (some ⟨fb, 0, none⟩) 1 cap)) (h11 : cs[11]? = some (.int .u8 1)) (hS : ∀ b ∈ S, b < w.heap.size) (hF : FrameM S rr w fb 0 fs0 m G ns mv) (hcv : NatV w cv ds) (hm : ds[m]? = some 243) (hl : ds.length ≤ 1000) (hfc : FrD fs0 0 cv) (hkG : k ≤ G) (hG : G < 256 ^ 200)
    (hRef : ∀ w', Kept [] w w' → Calls Salg.prog 111 #[.pointer (some ⟨c, 0, none⟩), .pointer (some ⟨fb, 0, none⟩), .int .u8 243] w' fun e w'' => ∃ r, e = .returned (.tuple #[.int .u8 0, r]) ∧ NumV w'' r k ∧ Kept [] w' w'')
    (hRe : ∀ w', Kept [fb] w w' → FrameM S rr w' fb 0 fs0 m (G - k) ns mv → Calls Salg.prog 114 #[.pointer (some ⟨fb, 0, none⟩), .int .u8 243] w' fun e w'' => ∃ r, e = .returned r ∧ NumV w'' r U ∧ Kept [] w' w'')
    (hGr : ∀ w' r, Kept [fb] w w' → FrameM S rr w' fb 0 fs0 m (G - k) ns mv → NumV w' r U → Calls Salg.prog 113 #[.pointer (some ⟨fb, 0, none⟩), r] w' fun e w'' => ∃ r', e = .returned r' ∧ F2 w'' ∧ Kept [fb] w' w'')
    (hA0 : ∀ w', Kept [fb] w w' → F2 w' → Calls Salg.prog 116 #[.pointer (some ⟨fb, 0, none⟩), .int .i64 0] w' fun e w'' => ∃ r, e = .returned r ∧ NumV w'' r A0 ∧ F2 w'' ∧ Kept [] w' w'')
    (hA1 : ∀ w', Kept [fb] w w' → F2 w' → Calls Salg.prog 116 #[.pointer (some ⟨fb, 0, none⟩), .int .i64 1] w' fun e w'' => ∃ r, e = .returned r ∧ NumV w'' r A1 ∧ F2 w'' ∧ Kept [] w' w'')
    (hRd : ∀ w' r r', Kept [fb] w w' → F2 w' → NumV w' r A0 → NumV w' r' A1 → Calls Salg.prog 115 #[.pointer (some ⟨fb, 0, none⟩), r, r'] w' fun e w'' => ∃ u, e = .returned u ∧ F3 u w'' ∧ Kept [] w' w'')
    (hPl : ∀ w' u, Kept [fb] w w' → F3 u w' → Calls Salg.prog 112 #[.pointer (some ⟨c, 0, none⟩), .int .u8 0, u] w' fun e w'' => ∃ r, e = .returned r ∧ Post w'')
    : Calls Salg.prog 27 #[.pointer (some ⟨c, 0, none⟩)] w fun e w' => e = .returned (.bool true) ∧ Post w' := by
  have M := Mem.start w []
  obtain ⟨fs, pv, gv, sv, xs, hr, hsz, hfs, h3, hpv, h4, hgv, h8, hsv, hxs, hmv, hbo⟩ := hF
  have HBO := hid hbo
  have HS := hid hS
  clear hbo hS
  have hxl := hxs.1
  obtain ⟨p, n, cp, rfl⟩ := rowV_slice hsv
  obtain rfl : n = xs.length := by
    rcases hsv with ⟨e, e2⟩ | ⟨g, cap, cur, e, _⟩
    · cases e; subst e2; rfl
    · cases e; rfl
  have hnb := hid (not_bytes_at (tc := 142) h8)
  have z4 : 0 + 4 < fs.size := (Array.getElem?_eq_some_iff.1 h4).1
  have g1 := (hfs (0 + 1) (by decide) (by decide) (by decide) (by decide)).trans hfc.f1
  have g10 := (hfs (0 + 10) (by decide) (by decide) (by decide) (by decide)).trans hfc.f10
  have HSZ := hid hsz
  have HFS := hid hfs
  have HGV := hid hgv
  have HCV := hid hcv
  have HSV := hid hsv
  have HXS := hid hxs
  have HPV := hid hpv
  have HRF := hid hRef
  have HREx := hid hRe
  have HGRx := hid hGr
  have HA0x := hid hA0
  have HA1x := hid hA1
  have HRDx := hid hRd
  have HPLx := hid hPl
  clear hfs hgv hcv hsv hxs hpv hRef hsz hRe hGr hA0 hA1 hRd hPl
  go_enter Salg.func27, Salg.ntmps27
  go_wp2_with (first
    | ((with_reducible apply W_loadCell); rfl; exact M.kept.row hc (by simp); exact h11; exact Salg.underlying5; rfl; simp only [Act.put, List.setIfInBounds_toArray, List.set_cons_zero, List.set_cons_succ])
    | ((with_reducible apply W_loadCellG); rfl; rfl; exact M.kept.row hc (by simp); exact h9; exact Salg.underlying115; rfl; simp only [Act.put, List.setIfInBounds_toArray, List.set_cons_zero, List.set_cons_succ]))
  refine S_region (by kernel_rfl) ?_
  refine E_stage 0 12 [0, 1, 2, 3, 4, 5, 6, 7, 8, 9, 10, 11] (by kernel_rfl) M.drew ?_
  clear M
  simp only [List.filterMap_cons, List.filterMap_nil, List.getElem?_cons_zero, List.getElem?_cons_succ]
  ((with_reducible apply E_run); rfl; rfl; (intro w M; go_simp; (try go_ints); (try simp only [↓IntWalk.iteOmega]); (try with_reducible rfl)); simp only [Act.put, List.setIfInBounds_toArray, List.set_cons_zero, List.set_cons_succ])
  ((with_reducible apply E_run); rfl; rfl; (intro w M; go_simp; (try go_ints); (try simp only [↓IntWalk.iteOmega]); (try with_reducible rfl)); simp only [Act.put, List.setIfInBounds_toArray, List.set_cons_zero, List.set_cons_succ])
  ((with_reducible apply E_run); rfl; rfl; (intro w M; go_simp; (try go_ints); (try simp only [↓IntWalk.iteOmega]); (try with_reducible rfl)); simp only [Act.put, List.setIfInBounds_toArray, List.set_cons_zero, List.set_cons_succ])
  ((with_reducible apply E_run); rfl; rfl; (intro w M; exact run_loadCell (M.kept.row hc (by simp)) rfl h9 Salg.underlying115 rfl); simp only [Act.put, List.setIfInBounds_toArray, List.set_cons_zero, List.set_cons_succ])
  ((with_reducible apply E_run); rfl; rfl; (intro w M; go_simp; (try go_ints); (try simp only [↓IntWalk.iteOmega]); (try with_reducible rfl)); simp only [Act.put, List.setIfInBounds_toArray, List.set_cons_zero, List.set_cons_succ])
  ((with_reducible apply E_run); rfl; rfl; (intro w M; go_simp; (try go_ints); (try simp only [↓IntWalk.iteOmega]); (try with_reducible rfl)); simp only [Act.put, List.setIfInBounds_toArray, List.set_cons_zero, List.set_cons_succ])
  ((with_reducible apply E_run); rfl; rfl; (intro w M; go_simp; (try go_ints); (try simp only [↓IntWalk.iteOmega]); (try with_reducible rfl)); simp only [Act.put, List.setIfInBounds_toArray, List.set_cons_zero, List.set_cons_succ])
  ((with_reducible apply E_run); rfl; rfl; (intro w M; exact run_loadCell (M.kept.row hc (by simp)) rfl h9 Salg.underlying115 rfl); simp only [Act.put, List.setIfInBounds_toArray, List.set_cons_zero, List.set_cons_succ])
  ((with_reducible apply E_run); rfl; rfl; (intro w M; go_simp; (try go_ints); (try simp only [↓IntWalk.iteOmega]); (try with_reducible rfl)); simp only [Act.put, List.setIfInBounds_toArray, List.set_cons_zero, List.set_cons_succ])
  ((with_reducible apply E_run); rfl; rfl; (intro w M; go_simp; (try go_ints); (try simp only [↓IntWalk.iteOmega]); (try with_reducible rfl)); simp only [Act.put, List.setIfInBounds_toArray, List.set_cons_zero, List.set_cons_succ])
  ((with_reducible apply E_run); rfl; rfl; (intro w M; go_simp; (try go_ints); (try simp only [↓IntWalk.iteOmega]); (try with_reducible rfl)); simp only [Act.put, List.setIfInBounds_toArray, List.set_cons_zero, List.set_cons_succ])
  ((with_reducible apply E_run); rfl; rfl; (intro w M; go_simp; (try go_ints); (try simp only [↓IntWalk.iteOmega]); (try with_reducible rfl)); simp only [Act.put, List.setIfInBounds_toArray, List.set_cons_zero, List.set_cons_succ])
  refine E_nil ?_
  intro w9 K M
  clear K
  refine S_done ?_
  go_wp2_with ((with_reducible apply W_loadCell); rfl; exact M.kept.row hr (by simp); exact g1; exact Salg.underlying5; rfl; simp only [Act.put, List.setIfInBounds_toArray, List.set_cons_zero, List.set_cons_succ])
  refine (opcode_q fb 0 m 243 fs pv cv ds _ (M.kept.row hr (by simp)) h3 g10 (HPV.out.num.kept M.kept) (HCV.out.kept M.kept) hm hl).mono ?_
  rintro e w1 ⟨rfl, K⟩
  replace M := M.call K
  clear K
  go_wp2_with fail
  refine (HRF.out _ M.kept).mono ?_
  rintro e w2 ⟨r, rfl, xHR, K⟩
  have HR := hid xHR
  replace M := M.call K
  clear K xHR
  go_wp2_with ((with_reducible apply W_loadCell); rfl; exact M.kept.row hr (by simp); exact h4; exact Salg.underlying89; rfl; simp only [Act.put, List.setIfInBounds_toArray, List.set_cons_zero, List.set_cons_succ])
  have hsl := M.kept.size
  refine (less_fresh gv r G k _ (HGV.out.num.kept M.kept) HR.out hG hkG).mono ?_
  rintro e w3 ⟨r2, rfl, xHR2, K⟩
  have HR2 := hid xHR2
  replace M := M.call K
  clear K xHR2
  have hrow := M.kept.row hr (by simp)
  go_wp2_with ((with_reducible apply W_stV (b := fb) (o := 0 + 4) (v := r2)); rfl; rfl; exact HR2.out.one; exact hrow; exact size89; exact z4; intro w4 K1 hr4)
  have HK := hid ((M.kept.mono (by simp)).trans K1 : Kept [fb] w w4)
  have HF : Hid (FrameM S rr w4 fb 0 fs0 m (G - k) ns mv) := by
    have KK := HK.out
    exact ⟨_, pv, r2, .slice p xs.length cp, xs, hr4, (Array.size_setIfInBounds).trans HSZ.out, fun j j3 j4 j8 j9 => (Array.getElem?_setIfInBounds_ne (by omega)).trans (HFS.out j j3 j4 j8 j9), (Array.getElem?_setIfInBounds_ne (by decide)).trans h3, HPV.out.keptC KK hr hnb.out, Array.getElem?_setIfInBounds_self_of_lt z4, (HR2.out.off fun b hb => Nat.lt_of_lt_of_le (HS.out b hb) hsl).keptC K1 hrow hnb.out, (Array.getElem?_setIfInBounds_ne (by decide)).trans h8, HSV.out.keptC KK hr (by decide), HXS.out.keptC KK hr hnb.out, (Array.getElem?_setIfInBounds_ne (by decide)).trans hmv, fun j v N e1 e2 e3 => (HBO.out j v N e1 e2 e3).keptC KK hr hnb.out⟩
  clear M K1 hr4 hrow
  go_wp2_with fail
  refine (HREx.out _ HK.out HF.out).mono ?_
  rintro e w5 ⟨r3, rfl, x3, K⟩
  have HR3 := hid x3
  replace HF := hid (HF.out.kept K)
  replace HK := hid (HK.out.trans (K.mono (by simp)))
  clear x3 K
  go_wp2_with fail
  refine (HGRx.out _ r3 HK.out HF.out HR3.out).mono ?_
  rintro e w6 ⟨r4, rfl, x4, K⟩
  have HF2 := hid x4
  replace HK := hid (HK.out.trans K)
  clear x4 K HF HR3
  go_wp2_with fail
  refine (HA0x.out _ HK.out HF2.out).mono ?_
  rintro e v0 ⟨a0, rfl, y0, y1, K⟩
  have Na0 := hid y0
  replace HF2 := hid y1
  replace HK := hid (HK.out.trans (K.mono (by simp)))
  clear y0 y1 K
  go_wp2_with fail
  refine (HA1x.out _ HK.out HF2.out).mono ?_
  rintro e v1 ⟨a1, rfl, y0, y1, K⟩
  have Na1 := hid y0
  replace HF2 := hid y1
  replace HK := hid (HK.out.trans (K.mono (by simp)))
  replace Na0 := hid (Na0.out.kept K)
  clear y0 y1 K
  go_wp2_with fail
  refine (HRDx.out _ a0 a1 HK.out HF2.out Na0.out Na1.out).mono ?_
  rintro e v2 ⟨u, rfl, y1, K⟩
  have HF3 := hid y1
  replace HK := hid (HK.out.trans (K.mono (by simp)))
  clear y1 K
  go_wp2_with fail
  refine (HPLx.out _ u HK.out HF3.out).mono ?_
  rintro e w8 ⟨r5, rfl, xF⟩
  have HP2 := hid xF
  clear xF
  go_wp2_with fail
  go_ret
  exact ⟨rfl, HP2.out⟩

set_option maxHeartbeats 4000000 in
set_option maxRecDepth 100000 in
theorem stepM_return2 (S : List Nat) (rr c fb m G k U fam s A0 A1 : Nat) (cs fs0 : Array Value) (cap : Nat) (ns : List Nat) (cv mv : Value) (ds : List Nat) (F2 Post : World → Prop) (F3 : Value → World → Prop) (w : World) (hc : w.heap[c]? = some (.cells cs 119 (0, 0))) (h9 : cs[9]? = some (.slice (some ⟨fb, 0, none⟩) 2 cap)) (h11 : cs[11]? = some (.int .u8 1)) (hS : ∀ b ∈ S, b < w.heap.size) (hF : FrameM S rr w fb 60 fs0 m G ns mv) (hcv : NatV w cv ds) (hm : ds[m]? = some 243) (hl : ds.length ≤ 1000) (hfc : FrD fs0 60 cv) (hkG : k ≤ G) (hG : G < 256 ^ 200)
    (hRef : ∀ w', Kept [] w w' → Calls Salg.prog 111 #[.pointer (some ⟨c, 0, none⟩), .pointer (some ⟨fb, 60, none⟩), .int .u8 243] w' fun e w'' => ∃ r, e = .returned (.tuple #[.int .u8 0, r]) ∧ NumV w'' r k ∧ Kept [] w' w'')
    (hRe : ∀ w', Kept [fb] w w' → FrameM S rr w' fb 60 fs0 m (G - k) ns mv → Calls Salg.prog 114 #[.pointer (some ⟨fb, 60, none⟩), .int .u8 243] w' fun e w'' => ∃ r, e = .returned r ∧ NumV w'' r U ∧ Kept [] w' w'')
    (hGr : ∀ w' r, Kept [fb] w w' → FrameM S rr w' fb 60 fs0 m (G - k) ns mv → NumV w' r U → Calls Salg.prog 113 #[.pointer (some ⟨fb, 60, none⟩), r] w' fun e w'' => ∃ r', e = .returned r' ∧ F2 w'' ∧ Kept [fb] w' w'')
    (hA0 : ∀ w', Kept [fb] w w' → F2 w' → Calls Salg.prog 116 #[.pointer (some ⟨fb, 60, none⟩), .int .i64 0] w' fun e w'' => ∃ r, e = .returned r ∧ NumV w'' r A0 ∧ F2 w'' ∧ Kept [] w' w'')
    (hA1 : ∀ w', Kept [fb] w w' → F2 w' → Calls Salg.prog 116 #[.pointer (some ⟨fb, 60, none⟩), .int .i64 1] w' fun e w'' => ∃ r, e = .returned r ∧ NumV w'' r A1 ∧ F2 w'' ∧ Kept [] w' w'')
    (hRd : ∀ w' r r', Kept [fb] w w' → F2 w' → NumV w' r A0 → NumV w' r' A1 → Calls Salg.prog 115 #[.pointer (some ⟨fb, 60, none⟩), r, r'] w' fun e w'' => ∃ u, e = .returned u ∧ F3 u w'' ∧ Kept [] w' w'')
    (hPl : ∀ w' u, Kept [fb] w w' → F3 u w' → Calls Salg.prog 112 #[.pointer (some ⟨c, 0, none⟩), .int .u8 0, u] w' fun e w'' => ∃ r, e = .returned r ∧ Post w'')
    : Calls Salg.prog 27 #[.pointer (some ⟨c, 0, none⟩)] w fun e w' => e = .returned (.bool true) ∧ Post w' := by
  have M := Mem.start w []
  obtain ⟨fs, pv, gv, sv, xs, hr, hsz, hfs, h3, hpv, h4, hgv, h8, hsv, hxs, hmv, hbo⟩ := hF
  have HBO := hid hbo
  have HS := hid hS
  clear hbo hS
  have hxl := hxs.1
  obtain ⟨p, n, cp, rfl⟩ := rowV_slice hsv
  obtain rfl : n = xs.length := by
    rcases hsv with ⟨e, e2⟩ | ⟨g, cap, cur, e, _⟩
    · cases e; subst e2; rfl
    · cases e; rfl
  have hnb := hid (not_bytes_at (tc := 142) h8)
  have z4 : 60 + 4 < fs.size := (Array.getElem?_eq_some_iff.1 h4).1
  have g1 := (hfs (60 + 1) (by decide) (by decide) (by decide) (by decide)).trans hfc.f1
  have g10 := (hfs (60 + 10) (by decide) (by decide) (by decide) (by decide)).trans hfc.f10
  have HSZ := hid hsz
  have HFS := hid hfs
  have HGV := hid hgv
  have HCV := hid hcv
  have HSV := hid hsv
  have HXS := hid hxs
  have HPV := hid hpv
  have HRF := hid hRef
  have HREx := hid hRe
  have HGRx := hid hGr
  have HA0x := hid hA0
  have HA1x := hid hA1
  have HRDx := hid hRd
  have HPLx := hid hPl
  clear hfs hgv hcv hsv hxs hpv hRef hsz hRe hGr hA0 hA1 hRd hPl
  go_enter Salg.func27, Salg.ntmps27
  go_wp2_with (first
    | ((with_reducible apply W_loadCell); rfl; exact M.kept.row hc (by simp); exact h11; exact Salg.underlying5; rfl; simp only [Act.put, List.setIfInBounds_toArray, List.set_cons_zero, List.set_cons_succ])
    | ((with_reducible apply W_loadCellG); rfl; rfl; exact M.kept.row hc (by simp); exact h9; exact Salg.underlying115; rfl; simp only [Act.put, List.setIfInBounds_toArray, List.set_cons_zero, List.set_cons_succ]))
  refine S_region (by kernel_rfl) ?_
  refine E_stage 0 12 [0, 1, 2, 3, 4, 5, 6, 7, 8, 9, 10, 11] (by kernel_rfl) M.drew ?_
  clear M
  simp only [List.filterMap_cons, List.filterMap_nil, List.getElem?_cons_zero, List.getElem?_cons_succ]
  ((with_reducible apply E_run); rfl; rfl; (intro w M; go_simp; (try go_ints); (try simp only [↓IntWalk.iteOmega]); (try with_reducible rfl)); simp only [Act.put, List.setIfInBounds_toArray, List.set_cons_zero, List.set_cons_succ])
  ((with_reducible apply E_run); rfl; rfl; (intro w M; go_simp; (try go_ints); (try simp only [↓IntWalk.iteOmega]); (try with_reducible rfl)); simp only [Act.put, List.setIfInBounds_toArray, List.set_cons_zero, List.set_cons_succ])
  ((with_reducible apply E_run); rfl; rfl; (intro w M; go_simp; (try go_ints); (try simp only [↓IntWalk.iteOmega]); (try with_reducible rfl)); simp only [Act.put, List.setIfInBounds_toArray, List.set_cons_zero, List.set_cons_succ])
  ((with_reducible apply E_run); rfl; rfl; (intro w M; exact run_loadCell (M.kept.row hc (by simp)) rfl h9 Salg.underlying115 rfl); simp only [Act.put, List.setIfInBounds_toArray, List.set_cons_zero, List.set_cons_succ])
  ((with_reducible apply E_run); rfl; rfl; (intro w M; go_simp; (try go_ints); (try simp only [↓IntWalk.iteOmega]); (try with_reducible rfl)); simp only [Act.put, List.setIfInBounds_toArray, List.set_cons_zero, List.set_cons_succ])
  ((with_reducible apply E_run); rfl; rfl; (intro w M; go_simp; (try go_ints); (try simp only [↓IntWalk.iteOmega]); (try with_reducible rfl)); simp only [Act.put, List.setIfInBounds_toArray, List.set_cons_zero, List.set_cons_succ])
  ((with_reducible apply E_run); rfl; rfl; (intro w M; go_simp; (try go_ints); (try simp only [↓IntWalk.iteOmega]); (try with_reducible rfl)); simp only [Act.put, List.setIfInBounds_toArray, List.set_cons_zero, List.set_cons_succ])
  ((with_reducible apply E_run); rfl; rfl; (intro w M; exact run_loadCell (M.kept.row hc (by simp)) rfl h9 Salg.underlying115 rfl); simp only [Act.put, List.setIfInBounds_toArray, List.set_cons_zero, List.set_cons_succ])
  ((with_reducible apply E_run); rfl; rfl; (intro w M; go_simp; (try go_ints); (try simp only [↓IntWalk.iteOmega]); (try with_reducible rfl)); simp only [Act.put, List.setIfInBounds_toArray, List.set_cons_zero, List.set_cons_succ])
  ((with_reducible apply E_run); rfl; rfl; (intro w M; go_simp; (try go_ints); (try simp only [↓IntWalk.iteOmega]); (try with_reducible rfl)); simp only [Act.put, List.setIfInBounds_toArray, List.set_cons_zero, List.set_cons_succ])
  ((with_reducible apply E_run); rfl; rfl; (intro w M; go_simp; (try go_ints); (try simp only [↓IntWalk.iteOmega]); (try with_reducible rfl)); simp only [Act.put, List.setIfInBounds_toArray, List.set_cons_zero, List.set_cons_succ])
  ((with_reducible apply E_run); rfl; rfl; (intro w M; go_simp; (try go_ints); (try simp only [↓IntWalk.iteOmega]); (try with_reducible rfl)); simp only [Act.put, List.setIfInBounds_toArray, List.set_cons_zero, List.set_cons_succ])
  refine E_nil ?_
  intro w9 K M
  clear K
  refine S_done ?_
  go_wp2_with ((with_reducible apply W_loadCell); rfl; exact M.kept.row hr (by simp); exact g1; exact Salg.underlying5; rfl; simp only [Act.put, List.setIfInBounds_toArray, List.set_cons_zero, List.set_cons_succ])
  refine (opcode_q fb 60 m 243 fs pv cv ds _ (M.kept.row hr (by simp)) h3 g10 (HPV.out.num.kept M.kept) (HCV.out.kept M.kept) hm hl).mono ?_
  rintro e w1 ⟨rfl, K⟩
  replace M := M.call K
  clear K
  go_wp2_with fail
  refine (HRF.out _ M.kept).mono ?_
  rintro e w2 ⟨r, rfl, xHR, K⟩
  have HR := hid xHR
  replace M := M.call K
  clear K xHR
  go_wp2_with ((with_reducible apply W_loadCell); rfl; exact M.kept.row hr (by simp); exact h4; exact Salg.underlying89; rfl; simp only [Act.put, List.setIfInBounds_toArray, List.set_cons_zero, List.set_cons_succ])
  have hsl := M.kept.size
  refine (less_fresh gv r G k _ (HGV.out.num.kept M.kept) HR.out hG hkG).mono ?_
  rintro e w3 ⟨r2, rfl, xHR2, K⟩
  have HR2 := hid xHR2
  replace M := M.call K
  clear K xHR2
  have hrow := M.kept.row hr (by simp)
  go_wp2_with ((with_reducible apply W_stV (b := fb) (o := 60 + 4) (v := r2)); rfl; rfl; exact HR2.out.one; exact hrow; exact size89; exact z4; intro w4 K1 hr4)
  have HK := hid ((M.kept.mono (by simp)).trans K1 : Kept [fb] w w4)
  have HF : Hid (FrameM S rr w4 fb 60 fs0 m (G - k) ns mv) := by
    have KK := HK.out
    exact ⟨_, pv, r2, .slice p xs.length cp, xs, hr4, (Array.size_setIfInBounds).trans HSZ.out, fun j j3 j4 j8 j9 => (Array.getElem?_setIfInBounds_ne (by omega)).trans (HFS.out j j3 j4 j8 j9), (Array.getElem?_setIfInBounds_ne (by decide)).trans h3, HPV.out.keptC KK hr hnb.out, Array.getElem?_setIfInBounds_self_of_lt z4, (HR2.out.off fun b hb => Nat.lt_of_lt_of_le (HS.out b hb) hsl).keptC K1 hrow hnb.out, (Array.getElem?_setIfInBounds_ne (by decide)).trans h8, HSV.out.keptC KK hr (by decide), HXS.out.keptC KK hr hnb.out, (Array.getElem?_setIfInBounds_ne (by decide)).trans hmv, fun j v N e1 e2 e3 => (HBO.out j v N e1 e2 e3).keptC KK hr hnb.out⟩
  clear M K1 hr4 hrow
  go_wp2_with fail
  refine (HREx.out _ HK.out HF.out).mono ?_
  rintro e w5 ⟨r3, rfl, x3, K⟩
  have HR3 := hid x3
  replace HF := hid (HF.out.kept K)
  replace HK := hid (HK.out.trans (K.mono (by simp)))
  clear x3 K
  go_wp2_with fail
  refine (HGRx.out _ r3 HK.out HF.out HR3.out).mono ?_
  rintro e w6 ⟨r4, rfl, x4, K⟩
  have HF2 := hid x4
  replace HK := hid (HK.out.trans K)
  clear x4 K HF HR3
  go_wp2_with fail
  refine (HA0x.out _ HK.out HF2.out).mono ?_
  rintro e v0 ⟨a0, rfl, y0, y1, K⟩
  have Na0 := hid y0
  replace HF2 := hid y1
  replace HK := hid (HK.out.trans (K.mono (by simp)))
  clear y0 y1 K
  go_wp2_with fail
  refine (HA1x.out _ HK.out HF2.out).mono ?_
  rintro e v1 ⟨a1, rfl, y0, y1, K⟩
  have Na1 := hid y0
  replace HF2 := hid y1
  replace HK := hid (HK.out.trans (K.mono (by simp)))
  replace Na0 := hid (Na0.out.kept K)
  clear y0 y1 K
  go_wp2_with fail
  refine (HRDx.out _ a0 a1 HK.out HF2.out Na0.out Na1.out).mono ?_
  rintro e v2 ⟨u, rfl, y1, K⟩
  have HF3 := hid y1
  replace HK := hid (HK.out.trans (K.mono (by simp)))
  clear y1 K
  go_wp2_with fail
  refine (HPLx.out _ u HK.out HF3.out).mono ?_
  rintro e w8 ⟨r5, rfl, xF⟩
  have HP2 := hid xF
  clear xF
  go_wp2_with fail
  go_ret
  exact ⟨rfl, HP2.out⟩

set_option maxHeartbeats 4000000 in
set_option maxRecDepth 100000 in
theorem stepM_return3 (S : List Nat) (rr c fb m G k U fam s A0 A1 : Nat) (cs fs0 : Array Value) (cap : Nat) (ns : List Nat) (cv mv : Value) (ds : List Nat) (F2 Post : World → Prop) (F3 : Value → World → Prop) (w : World) (hc : w.heap[c]? = some (.cells cs 119 (0, 0))) (h9 : cs[9]? = some (.slice (some ⟨fb, 0, none⟩) 3 cap)) (h11 : cs[11]? = some (.int .u8 1)) (hS : ∀ b ∈ S, b < w.heap.size) (hF : FrameM S rr w fb 120 fs0 m G ns mv) (hcv : NatV w cv ds) (hm : ds[m]? = some 243) (hl : ds.length ≤ 1000) (hfc : FrD fs0 120 cv) (hkG : k ≤ G) (hG : G < 256 ^ 200)
    (hRef : ∀ w', Kept [] w w' → Calls Salg.prog 111 #[.pointer (some ⟨c, 0, none⟩), .pointer (some ⟨fb, 120, none⟩), .int .u8 243] w' fun e w'' => ∃ r, e = .returned (.tuple #[.int .u8 0, r]) ∧ NumV w'' r k ∧ Kept [] w' w'')
    (hRe : ∀ w', Kept [fb] w w' → FrameM S rr w' fb 120 fs0 m (G - k) ns mv → Calls Salg.prog 114 #[.pointer (some ⟨fb, 120, none⟩), .int .u8 243] w' fun e w'' => ∃ r, e = .returned r ∧ NumV w'' r U ∧ Kept [] w' w'')
    (hGr : ∀ w' r, Kept [fb] w w' → FrameM S rr w' fb 120 fs0 m (G - k) ns mv → NumV w' r U → Calls Salg.prog 113 #[.pointer (some ⟨fb, 120, none⟩), r] w' fun e w'' => ∃ r', e = .returned r' ∧ F2 w'' ∧ Kept [fb] w' w'')
    (hA0 : ∀ w', Kept [fb] w w' → F2 w' → Calls Salg.prog 116 #[.pointer (some ⟨fb, 120, none⟩), .int .i64 0] w' fun e w'' => ∃ r, e = .returned r ∧ NumV w'' r A0 ∧ F2 w'' ∧ Kept [] w' w'')
    (hA1 : ∀ w', Kept [fb] w w' → F2 w' → Calls Salg.prog 116 #[.pointer (some ⟨fb, 120, none⟩), .int .i64 1] w' fun e w'' => ∃ r, e = .returned r ∧ NumV w'' r A1 ∧ F2 w'' ∧ Kept [] w' w'')
    (hRd : ∀ w' r r', Kept [fb] w w' → F2 w' → NumV w' r A0 → NumV w' r' A1 → Calls Salg.prog 115 #[.pointer (some ⟨fb, 120, none⟩), r, r'] w' fun e w'' => ∃ u, e = .returned u ∧ F3 u w'' ∧ Kept [] w' w'')
    (hPl : ∀ w' u, Kept [fb] w w' → F3 u w' → Calls Salg.prog 112 #[.pointer (some ⟨c, 0, none⟩), .int .u8 0, u] w' fun e w'' => ∃ r, e = .returned r ∧ Post w'')
    : Calls Salg.prog 27 #[.pointer (some ⟨c, 0, none⟩)] w fun e w' => e = .returned (.bool true) ∧ Post w' := by
  have M := Mem.start w []
  obtain ⟨fs, pv, gv, sv, xs, hr, hsz, hfs, h3, hpv, h4, hgv, h8, hsv, hxs, hmv, hbo⟩ := hF
  have HBO := hid hbo
  have HS := hid hS
  clear hbo hS
  have hxl := hxs.1
  obtain ⟨p, n, cp, rfl⟩ := rowV_slice hsv
  obtain rfl : n = xs.length := by
    rcases hsv with ⟨e, e2⟩ | ⟨g, cap, cur, e, _⟩
    · cases e; subst e2; rfl
    · cases e; rfl
  have hnb := hid (not_bytes_at (tc := 142) h8)
  have z4 : 120 + 4 < fs.size := (Array.getElem?_eq_some_iff.1 h4).1
  have g1 := (hfs (120 + 1) (by decide) (by decide) (by decide) (by decide)).trans hfc.f1
  have g10 := (hfs (120 + 10) (by decide) (by decide) (by decide) (by decide)).trans hfc.f10
  have HSZ := hid hsz
  have HFS := hid hfs
  have HGV := hid hgv
  have HCV := hid hcv
  have HSV := hid hsv
  have HXS := hid hxs
  have HPV := hid hpv
  have HRF := hid hRef
  have HREx := hid hRe
  have HGRx := hid hGr
  have HA0x := hid hA0
  have HA1x := hid hA1
  have HRDx := hid hRd
  have HPLx := hid hPl
  clear hfs hgv hcv hsv hxs hpv hRef hsz hRe hGr hA0 hA1 hRd hPl
  go_enter Salg.func27, Salg.ntmps27
  go_wp2_with (first
    | ((with_reducible apply W_loadCell); rfl; exact M.kept.row hc (by simp); exact h11; exact Salg.underlying5; rfl; simp only [Act.put, List.setIfInBounds_toArray, List.set_cons_zero, List.set_cons_succ])
    | ((with_reducible apply W_loadCellG); rfl; rfl; exact M.kept.row hc (by simp); exact h9; exact Salg.underlying115; rfl; simp only [Act.put, List.setIfInBounds_toArray, List.set_cons_zero, List.set_cons_succ]))
  refine S_region (by kernel_rfl) ?_
  refine E_stage 0 12 [0, 1, 2, 3, 4, 5, 6, 7, 8, 9, 10, 11] (by kernel_rfl) M.drew ?_
  clear M
  simp only [List.filterMap_cons, List.filterMap_nil, List.getElem?_cons_zero, List.getElem?_cons_succ]
  ((with_reducible apply E_run); rfl; rfl; (intro w M; go_simp; (try go_ints); (try simp only [↓IntWalk.iteOmega]); (try with_reducible rfl)); simp only [Act.put, List.setIfInBounds_toArray, List.set_cons_zero, List.set_cons_succ])
  ((with_reducible apply E_run); rfl; rfl; (intro w M; go_simp; (try go_ints); (try simp only [↓IntWalk.iteOmega]); (try with_reducible rfl)); simp only [Act.put, List.setIfInBounds_toArray, List.set_cons_zero, List.set_cons_succ])
  ((with_reducible apply E_run); rfl; rfl; (intro w M; go_simp; (try go_ints); (try simp only [↓IntWalk.iteOmega]); (try with_reducible rfl)); simp only [Act.put, List.setIfInBounds_toArray, List.set_cons_zero, List.set_cons_succ])
  ((with_reducible apply E_run); rfl; rfl; (intro w M; exact run_loadCell (M.kept.row hc (by simp)) rfl h9 Salg.underlying115 rfl); simp only [Act.put, List.setIfInBounds_toArray, List.set_cons_zero, List.set_cons_succ])
  ((with_reducible apply E_run); rfl; rfl; (intro w M; go_simp; (try go_ints); (try simp only [↓IntWalk.iteOmega]); (try with_reducible rfl)); simp only [Act.put, List.setIfInBounds_toArray, List.set_cons_zero, List.set_cons_succ])
  ((with_reducible apply E_run); rfl; rfl; (intro w M; go_simp; (try go_ints); (try simp only [↓IntWalk.iteOmega]); (try with_reducible rfl)); simp only [Act.put, List.setIfInBounds_toArray, List.set_cons_zero, List.set_cons_succ])
  ((with_reducible apply E_run); rfl; rfl; (intro w M; go_simp; (try go_ints); (try simp only [↓IntWalk.iteOmega]); (try with_reducible rfl)); simp only [Act.put, List.setIfInBounds_toArray, List.set_cons_zero, List.set_cons_succ])
  ((with_reducible apply E_run); rfl; rfl; (intro w M; exact run_loadCell (M.kept.row hc (by simp)) rfl h9 Salg.underlying115 rfl); simp only [Act.put, List.setIfInBounds_toArray, List.set_cons_zero, List.set_cons_succ])
  ((with_reducible apply E_run); rfl; rfl; (intro w M; go_simp; (try go_ints); (try simp only [↓IntWalk.iteOmega]); (try with_reducible rfl)); simp only [Act.put, List.setIfInBounds_toArray, List.set_cons_zero, List.set_cons_succ])
  ((with_reducible apply E_run); rfl; rfl; (intro w M; go_simp; (try go_ints); (try simp only [↓IntWalk.iteOmega]); (try with_reducible rfl)); simp only [Act.put, List.setIfInBounds_toArray, List.set_cons_zero, List.set_cons_succ])
  ((with_reducible apply E_run); rfl; rfl; (intro w M; go_simp; (try go_ints); (try simp only [↓IntWalk.iteOmega]); (try with_reducible rfl)); simp only [Act.put, List.setIfInBounds_toArray, List.set_cons_zero, List.set_cons_succ])
  ((with_reducible apply E_run); rfl; rfl; (intro w M; go_simp; (try go_ints); (try simp only [↓IntWalk.iteOmega]); (try with_reducible rfl)); simp only [Act.put, List.setIfInBounds_toArray, List.set_cons_zero, List.set_cons_succ])
  refine E_nil ?_
  intro w9 K M
  clear K
  refine S_done ?_
  go_wp2_with ((with_reducible apply W_loadCell); rfl; exact M.kept.row hr (by simp); exact g1; exact Salg.underlying5; rfl; simp only [Act.put, List.setIfInBounds_toArray, List.set_cons_zero, List.set_cons_succ])
  refine (opcode_q fb 120 m 243 fs pv cv ds _ (M.kept.row hr (by simp)) h3 g10 (HPV.out.num.kept M.kept) (HCV.out.kept M.kept) hm hl).mono ?_
  rintro e w1 ⟨rfl, K⟩
  replace M := M.call K
  clear K
  go_wp2_with fail
  refine (HRF.out _ M.kept).mono ?_
  rintro e w2 ⟨r, rfl, xHR, K⟩
  have HR := hid xHR
  replace M := M.call K
  clear K xHR
  go_wp2_with ((with_reducible apply W_loadCell); rfl; exact M.kept.row hr (by simp); exact h4; exact Salg.underlying89; rfl; simp only [Act.put, List.setIfInBounds_toArray, List.set_cons_zero, List.set_cons_succ])
  have hsl := M.kept.size
  refine (less_fresh gv r G k _ (HGV.out.num.kept M.kept) HR.out hG hkG).mono ?_
  rintro e w3 ⟨r2, rfl, xHR2, K⟩
  have HR2 := hid xHR2
  replace M := M.call K
  clear K xHR2
  have hrow := M.kept.row hr (by simp)
  go_wp2_with ((with_reducible apply W_stV (b := fb) (o := 120 + 4) (v := r2)); rfl; rfl; exact HR2.out.one; exact hrow; exact size89; exact z4; intro w4 K1 hr4)
  have HK := hid ((M.kept.mono (by simp)).trans K1 : Kept [fb] w w4)
  have HF : Hid (FrameM S rr w4 fb 120 fs0 m (G - k) ns mv) := by
    have KK := HK.out
    exact ⟨_, pv, r2, .slice p xs.length cp, xs, hr4, (Array.size_setIfInBounds).trans HSZ.out, fun j j3 j4 j8 j9 => (Array.getElem?_setIfInBounds_ne (by omega)).trans (HFS.out j j3 j4 j8 j9), (Array.getElem?_setIfInBounds_ne (by decide)).trans h3, HPV.out.keptC KK hr hnb.out, Array.getElem?_setIfInBounds_self_of_lt z4, (HR2.out.off fun b hb => Nat.lt_of_lt_of_le (HS.out b hb) hsl).keptC K1 hrow hnb.out, (Array.getElem?_setIfInBounds_ne (by decide)).trans h8, HSV.out.keptC KK hr (by decide), HXS.out.keptC KK hr hnb.out, (Array.getElem?_setIfInBounds_ne (by decide)).trans hmv, fun j v N e1 e2 e3 => (HBO.out j v N e1 e2 e3).keptC KK hr hnb.out⟩
  clear M K1 hr4 hrow
  go_wp2_with fail
  refine (HREx.out _ HK.out HF.out).mono ?_
  rintro e w5 ⟨r3, rfl, x3, K⟩
  have HR3 := hid x3
  replace HF := hid (HF.out.kept K)
  replace HK := hid (HK.out.trans (K.mono (by simp)))
  clear x3 K
  go_wp2_with fail
  refine (HGRx.out _ r3 HK.out HF.out HR3.out).mono ?_
  rintro e w6 ⟨r4, rfl, x4, K⟩
  have HF2 := hid x4
  replace HK := hid (HK.out.trans K)
  clear x4 K HF HR3
  go_wp2_with fail
  refine (HA0x.out _ HK.out HF2.out).mono ?_
  rintro e v0 ⟨a0, rfl, y0, y1, K⟩
  have Na0 := hid y0
  replace HF2 := hid y1
  replace HK := hid (HK.out.trans (K.mono (by simp)))
  clear y0 y1 K
  go_wp2_with fail
  refine (HA1x.out _ HK.out HF2.out).mono ?_
  rintro e v1 ⟨a1, rfl, y0, y1, K⟩
  have Na1 := hid y0
  replace HF2 := hid y1
  replace HK := hid (HK.out.trans (K.mono (by simp)))
  replace Na0 := hid (Na0.out.kept K)
  clear y0 y1 K
  go_wp2_with fail
  refine (HRDx.out _ a0 a1 HK.out HF2.out Na0.out Na1.out).mono ?_
  rintro e v2 ⟨u, rfl, y1, K⟩
  have HF3 := hid y1
  replace HK := hid (HK.out.trans (K.mono (by simp)))
  clear y1 K
  go_wp2_with fail
  refine (HPLx.out _ u HK.out HF3.out).mono ?_
  rintro e w8 ⟨r5, rfl, xF⟩
  have HP2 := hid xF
  clear xF
  go_wp2_with fail
  go_ret
  exact ⟨rfl, HP2.out⟩

set_option maxHeartbeats 4000000 in
set_option maxRecDepth 100000 in
theorem stepM_refused1 (S : List Nat) (rr c fb m G k U fam s A0 A1 o : Nat) (cs fs0 : Array Value) (cap : Nat) (ns : List Nat) (cv mv : Value) (ds : List Nat) (F2 Post : World → Prop) (F3 : Value → World → Prop) (w : World) (hc : w.heap[c]? = some (.cells cs 119 (0, 0))) (h9 : cs[9]? = some (.slice (some ⟨fb, 0, none⟩) 1 cap)) (h11 : cs[11]? = some (.int .u8 1)) (hS : ∀ b ∈ S, b < w.heap.size) (hF : FrameM S rr w fb 0 fs0 m G ns mv) (hcv : NatV w cv ds) (hm : ds[m]? = some o) (hl : ds.length ≤ 1000) (hfc : FrD fs0 0 cv) (hkG : k ≤ G) (hG : G < 256 ^ 200)
    (hRef : ∀ w', Kept [] w w' → Calls Salg.prog 111 #[.pointer (some ⟨c, 0, none⟩), .pointer (some ⟨fb, 0, none⟩), .int .u8 o] w' fun e w'' => ∃ r, e = .returned (.tuple #[.int .u8 s, r]) ∧ NumV w'' r k ∧ Kept [] w' w'')
    (hs : s ≠ 0) (hPl : ∀ w', Kept [] w w' → Calls Salg.prog 112 #[.pointer (some ⟨c, 0, none⟩), .int .u8 s, .slice none 0 0] w' fun e w'' => ∃ r, e = .returned r ∧ Post w'')
    : Calls Salg.prog 27 #[.pointer (some ⟨c, 0, none⟩)] w fun e w' => e = .returned (.bool true) ∧ Post w' := by
  have M := Mem.start w []
  obtain ⟨fs, pv, gv, sv, xs, hr, hsz, hfs, h3, hpv, h4, hgv, h8, hsv, hxs, hmv, hbo⟩ := hF
  have HBO := hid hbo
  have HS := hid hS
  clear hbo hS
  have hxl := hxs.1
  obtain ⟨p, n, cp, rfl⟩ := rowV_slice hsv
  obtain rfl : n = xs.length := by
    rcases hsv with ⟨e, e2⟩ | ⟨g, cap, cur, e, _⟩
    · cases e; subst e2; rfl
    · cases e; rfl
  have hnb := hid (not_bytes_at (tc := 142) h8)
  have z4 : 0 + 4 < fs.size := (Array.getElem?_eq_some_iff.1 h4).1
  have g1 := (hfs (0 + 1) (by decide) (by decide) (by decide) (by decide)).trans hfc.f1
  have g10 := (hfs (0 + 10) (by decide) (by decide) (by decide) (by decide)).trans hfc.f10
  have HSZ := hid hsz
  have HFS := hid hfs
  have HGV := hid hgv
  have HCV := hid hcv
  have HSV := hid hsv
  have HXS := hid hxs
  have HPV := hid hpv
  have HRF := hid hRef
  have ds0 : decide ((s : Int) = 0) = false := by simp; omega
  have es0 : decide (s = 0) = false := by simp; omega
  have HPLx := hid hPl
  clear hfs hgv hcv hsv hxs hpv hRef hsz hPl
  go_enter Salg.func27, Salg.ntmps27
  go_wp2_with (first
    | ((with_reducible apply W_loadCell); rfl; exact M.kept.row hc (by simp); exact h11; exact Salg.underlying5; rfl; simp only [Act.put, List.setIfInBounds_toArray, List.set_cons_zero, List.set_cons_succ])
    | ((with_reducible apply W_loadCellG); rfl; rfl; exact M.kept.row hc (by simp); exact h9; exact Salg.underlying115; rfl; simp only [Act.put, List.setIfInBounds_toArray, List.set_cons_zero, List.set_cons_succ]))
  refine S_region (by kernel_rfl) ?_
  refine E_stage 0 12 [0, 1, 2, 3, 4, 5, 6, 7, 8, 9, 10, 11] (by kernel_rfl) M.drew ?_
  clear M
  simp only [List.filterMap_cons, List.filterMap_nil, List.getElem?_cons_zero, List.getElem?_cons_succ]
  ((with_reducible apply E_run); rfl; rfl; (intro w M; go_simp; (try go_ints); (try simp only [↓IntWalk.iteOmega]); (try with_reducible rfl)); simp only [Act.put, List.setIfInBounds_toArray, List.set_cons_zero, List.set_cons_succ])
  ((with_reducible apply E_run); rfl; rfl; (intro w M; go_simp; (try go_ints); (try simp only [↓IntWalk.iteOmega]); (try with_reducible rfl)); simp only [Act.put, List.setIfInBounds_toArray, List.set_cons_zero, List.set_cons_succ])
  ((with_reducible apply E_run); rfl; rfl; (intro w M; go_simp; (try go_ints); (try simp only [↓IntWalk.iteOmega]); (try with_reducible rfl)); simp only [Act.put, List.setIfInBounds_toArray, List.set_cons_zero, List.set_cons_succ])
  ((with_reducible apply E_run); rfl; rfl; (intro w M; exact run_loadCell (M.kept.row hc (by simp)) rfl h9 Salg.underlying115 rfl); simp only [Act.put, List.setIfInBounds_toArray, List.set_cons_zero, List.set_cons_succ])
  ((with_reducible apply E_run); rfl; rfl; (intro w M; go_simp; (try go_ints); (try simp only [↓IntWalk.iteOmega]); (try with_reducible rfl)); simp only [Act.put, List.setIfInBounds_toArray, List.set_cons_zero, List.set_cons_succ])
  ((with_reducible apply E_run); rfl; rfl; (intro w M; go_simp; (try go_ints); (try simp only [↓IntWalk.iteOmega]); (try with_reducible rfl)); simp only [Act.put, List.setIfInBounds_toArray, List.set_cons_zero, List.set_cons_succ])
  ((with_reducible apply E_run); rfl; rfl; (intro w M; go_simp; (try go_ints); (try simp only [↓IntWalk.iteOmega]); (try with_reducible rfl)); simp only [Act.put, List.setIfInBounds_toArray, List.set_cons_zero, List.set_cons_succ])
  ((with_reducible apply E_run); rfl; rfl; (intro w M; exact run_loadCell (M.kept.row hc (by simp)) rfl h9 Salg.underlying115 rfl); simp only [Act.put, List.setIfInBounds_toArray, List.set_cons_zero, List.set_cons_succ])
  ((with_reducible apply E_run); rfl; rfl; (intro w M; go_simp; (try go_ints); (try simp only [↓IntWalk.iteOmega]); (try with_reducible rfl)); simp only [Act.put, List.setIfInBounds_toArray, List.set_cons_zero, List.set_cons_succ])
  ((with_reducible apply E_run); rfl; rfl; (intro w M; go_simp; (try go_ints); (try simp only [↓IntWalk.iteOmega]); (try with_reducible rfl)); simp only [Act.put, List.setIfInBounds_toArray, List.set_cons_zero, List.set_cons_succ])
  ((with_reducible apply E_run); rfl; rfl; (intro w M; go_simp; (try go_ints); (try simp only [↓IntWalk.iteOmega]); (try with_reducible rfl)); simp only [Act.put, List.setIfInBounds_toArray, List.set_cons_zero, List.set_cons_succ])
  ((with_reducible apply E_run); rfl; rfl; (intro w M; go_simp; (try go_ints); (try simp only [↓IntWalk.iteOmega]); (try with_reducible rfl)); simp only [Act.put, List.setIfInBounds_toArray, List.set_cons_zero, List.set_cons_succ])
  refine E_nil ?_
  intro w9 K M
  clear K
  refine S_done ?_
  go_wp2_with ((with_reducible apply W_loadCell); rfl; exact M.kept.row hr (by simp); exact g1; exact Salg.underlying5; rfl; simp only [Act.put, List.setIfInBounds_toArray, List.set_cons_zero, List.set_cons_succ])
  refine (opcode_q fb 0 m o fs pv cv ds _ (M.kept.row hr (by simp)) h3 g10 (HPV.out.num.kept M.kept) (HCV.out.kept M.kept) hm hl).mono ?_
  rintro e w1 ⟨rfl, K⟩
  replace M := M.call K
  clear K
  go_wp2_with fail
  refine (HRF.out _ M.kept).mono ?_
  rintro e w2 ⟨r, rfl, xHR, K⟩
  have HR := hid xHR
  replace M := M.call K
  clear K xHR
  go_wp2_with fail
  refine (HPLx.out _ M.kept).mono ?_
  rintro e w8 ⟨r5, rfl, xF⟩
  have HF2 := hid xF
  clear xF
  go_wp2_with fail
  go_ret
  exact ⟨rfl, HF2.out⟩
end Go.Proofs.YgcsalGreat

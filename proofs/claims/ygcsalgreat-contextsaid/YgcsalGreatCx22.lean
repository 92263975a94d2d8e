/-
  Runs of Context: kinds 0 to 5, from Begin to the end.
-/
import Derived.Test.YgcsalGreatCx21
import Derived.Test.YgcsalGreatCx19
set_option linter.unusedSimpArgs false
set_option linter.unusedVariables false
namespace Go.Own
open Go.Proofs.YgcsalGreat
theorem fwdC_tail (v t : Nat) : ∀ i, i < 8 → (fwdC v t)[9 + 1 + i]? = [80, 61, 95, 95, 62, 61, 95, 243][i]? := by
  intro i hi
  have h : i = 0 ∨ i = 1 ∨ i = 2 ∨ i = 3 ∨ i = 4 ∨ i = 5 ∨ i = 6 ∨ i = 7 := by omega
  rcases h with rfl | rfl | rfl | rfl | rfl | rfl | rfl | rfl <;> rfl
theorem fwdO_tail (t o : Nat) : ∀ i, i < 8 → (fwdO t o)[7 + 1 + i]? = [80, 61, 95, 95, 62, 61, 95, 243][i]? := by
  intro i hi
  have h : i = 0 ∨ i = 1 ∨ i = 2 ∨ i = 3 ∨ i = 4 ∨ i = 5 ∨ i = 6 ∨ i = 7 := by omega
  rcases h with rfl | rfl | rfl | rfl | rfl | rfl | rfl | rfl <;> rfl
end Go.Own
namespace Go.Proofs.YgcsalGreat
open Go.RowKit Go.Own
theorem crun_0 {w0 w : World} {c fb cap : Nat} {E : XEnv} {cur : Array Value} {gv fv cw iu a0 a1 a3 a6 : Value} {v : Nat} {D : List AD} {T : Nat} (B : BegY w0 w c fb cap E cur gv fv cw iu a0 a1 a3 a6 2 v probeL (laT 2) D T) (hv : v < 256) : AtProbe c 0 false (ad 2) (ad 240) (fun w2 => EndD w2 c T (probeM (ad 2) (ad 240) v) D ∧ Kept [c] w0 w2) w := by
  obtain ⟨hS, hR⟩ := begY_start B (by decide)
  have hsz := B.size
  have hc1 := B.cap1
  refine ⟨fun w1 K1 => ?_, 1 + 14, fb, lt_of_row B.row, fun w1 K1 => ?_⟩
  · refine (sees1 hR (StY.keptZ hS K1) (by omega) (by omega) (by simp) (by simp)).mono ?_
    rintro e w' ⟨s1, s2, s3, he, o1, o2, o3, K2⟩
    exact ⟨_, s1, s2, s3, he, o1, o2, o3, K2⟩
  · clear hS hR
    replace B := B.kept K1
    obtain ⟨hS, hR⟩ := begY_start B (by decide)
    refine probe_run1 hR (ad_small (by decide)) (ad_small (by decide)) (by have e := B.inn 5 (by decide); exact e) B.nfv hv (by omega) (by omega) hS fun w2 h2 => ?_
    exact ret1 hR h2 rfl (by omega) (by omega) (probeM_len rfl rfl) (by have e := B.inn 0 (by decide); exact e) creates_zero (frG_cells B.inn B.ngv.one B.nfv.one B.ncw.one B.niu.one B.one) (by omega) hc1 B.capM B.acc B.env B.bas (fun w K4 => K4)
theorem crun_1z {w0 w : World} {c fb cap : Nat} {E : XEnv} {cur : Array Value} {gv fv cw iu a0 a1 a3 a6 : Value} {v : Nat} {D : List AD} {T : Nat} (B : BegY w0 w c fb cap E cur gv fv cw iu a0 a1 a3 a6 1 v (fwdC 0 2) (laT 1) D T) (da dt : AD) (hda : D.find? (fun x => x.adr == ad 1) = some da) (hdt : D.find? (fun x => x.adr == ad 2) = some dt) (hds : dt.ds = probeL) (hB : da.B < 256 ^ 100) (hD0 : 0 < D.length) (hD20 : D.length ≤ 20) : Goes c 1 (fun w' => Kept [c] w0 w') (AtProbe c 1 false (ad 2) (ad 1) (fun w2 => EndD w2 c T (probeM (ad 2) (ad 1) 0) D ∧ Kept [c] w0 w2)) (0 + 1 + 7) w := by
  obtain ⟨hS, hR⟩ := begY_start B (by simp [fwdC, fwdO])
  refine preC1 (v := 0) (t := 2) (o := 0) hR (fun _ KK => B.bas.to KK) hS (by decide) (by decide) (by decide) (by decide) (by decide) fun w1 h1 => ?_
  refine Goes.step1 hR (fun _ KK => B.bas.to KK) h1 (by decide) (by decide) (by decide) (ns_small (by intro N hN; simp at hN <;> omega)) (by simp) (fun w2 h2 => stepY_call1 (179000 - 16) 2 1 240 0 fv D da dt dt h2 hR.hard hR.code hR.fd rfl hR.len (by decide) (by decide) (by decide) hR.se (by decide) target_two B.acc hda hdt hB (Nat.zero_le _) (by decide) (by decide) (by decide) (by decide) hD0 hD20 B.env.md B.size B.capM B.cap1 rfl) fun w2 hx => ?_
  obtain ⟨fb', cap', cur', pv, gv', sv, r7, cw', sg, vn, iu', b0, b1, b3, b6, vz', C, hV, hb, K⟩ := hx
  rw [hds] at C
  exact ⟨B.bas.to K, probe_back1 hR C hV (by decide) (by decide) (by decide) hb K B.bas ((B.env.keptN K hR.hard).with vz') (fwdC_tail 0 2) (by decide) (by have e := B.inn 0 (by decide); exact e) (frG_cells B.inn B.ngv.one B.nfv.one B.ncw.one B.niu.one B.one) creates_two (by decide) (by decide)⟩
theorem crun_1v {w0 w : World} {c fb cap : Nat} {E : XEnv} {cur : Array Value} {gv fv cw iu a0 a1 a3 a6 : Value} {v : Nat} {D : List AD} {T : Nat} (V : Nat) (B : BegY w0 w c fb cap E cur gv fv cw iu a0 a1 a3 a6 1 v (fwdC V 2) (laT 1) D T) (da dt : AD) (hda : D.find? (fun x => x.adr == ad 1) = some da) (hdt : D.find? (fun x => x.adr == ad 2) = some dt) (hds : dt.ds = probeL) (hB : da.B < 256 ^ 100) (hD0 : 0 < D.length) (hD20 : D.length ≤ 20) (d2 : AD) (hV0 : V ≠ 0) (hV2 : V < 256) (hVB : V ≤ da.B) (hN1 : da.N ≠ 0) (hNt : dt.N ≠ 0) (hN2 : d2.N ≠ 0) (hd2 : (dPut ⟨ad 1, da.N, da.B - V, da.ds⟩ false D).find? (fun x => x.adr == ad 2) = some d2) (hB2 : d2.B < 256 ^ 100) (hll1 : (dPut ⟨ad 1, da.N, da.B - V, da.ds⟩ false D).length ≤ 100) : Goes c 1 (fun w' => Kept [c] w0 w') (AtProbe c 1 false (ad 2) (ad 1) (fun w2 => EndD w2 c T (probeM (ad 2) (ad 1) V) (dPut ⟨ad 2, d2.N, d2.B + V, d2.ds⟩ false (dPut ⟨ad 1, da.N, da.B - V, da.ds⟩ false D)) ∧ Kept [c] w0 w2)) (0 + 1 + 7) w := by
  obtain ⟨hS, hR⟩ := begY_start B (by simp [fwdC, fwdO])
  refine preC1 (v := V) (t := 2) (o := 0) hR (fun _ KK => B.bas.to KK) hS (by decide) (by decide) (by decide) (by decide) hV2 fun w1 h1 => ?_
  refine Goes.step1 hR (fun _ KK => B.bas.to KK) h1 (by decide) (by decide) (by decide) (ns_small (by intro N hN; simp at hN <;> omega)) (by simp) (fun w2 h2 => stepY_call1_v (179000 - 16) 2 1 240 V fv D da dt d2 h2 hR.hard hR.code hR.fd rfl hR.len (by decide) (by decide) (by decide) hR.se (by decide) target_two B.acc hda hdt hB hVB (by decide) (by decide) (by decide) (by decide) hD0 hD20 B.env.md B.size B.capM B.cap1 hV0 rfl hN1 hNt hN2 hd2 hB2 hll1) fun w2 hx => ?_
  obtain ⟨fb', cap', cur', pv, gv', sv, r7, cw', sg, vn, iu', b0, b1, b3, b6, vz', C, hV, hb, K⟩ := hx
  rw [hds] at C
  exact ⟨B.bas.to K, probe_back1 hR C hV hV2 (by decide) (by decide) hb K B.bas ((B.env.keptN K hR.hard).with vz') (fwdC_tail V 2) (by decide) (by have e := B.inn 0 (by decide); exact e) (frG_cells B.inn B.ngv.one B.nfv.one B.ncw.one B.niu.one B.one) creates_two (by decide) (by decide)⟩
theorem crun_2 {w0 w : World} {c fb cap : Nat} {E : XEnv} {cur : Array Value} {gv fv cw iu a0 a1 a3 a6 : Value} {v : Nat} {D : List AD} {T : Nat} (B : BegY w0 w c fb cap E cur gv fv cw iu a0 a1 a3 a6 1 v (fwdO 2 244) (laT 1) D T) (da dt : AD) (hda : D.find? (fun x => x.adr == ad 1) = some da) (hdt : D.find? (fun x => x.adr == ad 2) = some dt) (hds : dt.ds = probeL) (hB : da.B < 256 ^ 100) (hD0 : 0 < D.length) (hD20 : D.length ≤ 20) (hv : v < 256) : Goes c 1 (fun w' => Kept [c] w0 w') (AtProbe c 1 false (ad 1) (ad 240) (fun w2 => EndD w2 c T (probeM (ad 1) (ad 240) v) D ∧ Kept [c] w0 w2)) (0 + 1 + 6) w := by
  obtain ⟨hS, hR⟩ := begY_start B (by simp [fwdC, fwdO])
  refine preO1 (v := 0) (t := 2) (o := 244) hR (fun _ KK => B.bas.to KK) hS (by decide) (by decide) (by decide) (by decide) (by decide) fun w1 h1 => ?_
  refine Goes.step1 hR (fun _ KK => B.bas.to KK) h1 (by decide) (by decide) (by decide) (ns_small (by intro N hN; simp at hN <;> omega)) (by simp) (fun w2 h2 => stepY_delegatecall1 (179000 - 13) 2 1 240 0 fv D da dt dt h2 hR.hard hR.code hR.fd rfl hR.len (by decide) (by decide) (by decide) hR.se hR.ca (by have e := B.inn 5 (by decide); exact e) B.nfv.one (by decide) target_two B.acc hda hdt hB (Nat.zero_le _) (by decide) (by decide) (by decide) (by decide) hD0 hD20 B.env.md B.size B.capM B.cap1) fun w2 hx => ?_
  obtain ⟨fb', cap', cur', pv, gv', sv, r7, cw', sg, vn, iu', b0, b1, b3, b6, vz', C, hV, hb, K⟩ := hx
  rw [hds] at C
  exact ⟨B.bas.to K, probe_back1 hR C (B.nfv.keptN K hR.hard) hv (by decide) (by decide) hb K B.bas ((B.env.keptN K hR.hard).with vz') (fwdO_tail 2 244) (by decide) (by have e := B.inn 0 (by decide); exact e) (frG_cells B.inn B.ngv.one B.nfv.one B.ncw.one B.niu.one B.one) creates_three (by decide) (by decide)⟩
theorem crun_3 {w0 w : World} {c fb cap : Nat} {E : XEnv} {cur : Array Value} {gv fv cw iu a0 a1 a3 a6 : Value} {v : Nat} {D : List AD} {T : Nat} (B : BegY w0 w c fb cap E cur gv fv cw iu a0 a1 a3 a6 1 v (fwdO 2 250) (laT 1) D T) (da dt : AD) (hda : D.find? (fun x => x.adr == ad 1) = some da) (hdt : D.find? (fun x => x.adr == ad 2) = some dt) (hds : dt.ds = probeL) (hB : da.B < 256 ^ 100) (hD0 : 0 < D.length) (hD20 : D.length ≤ 20) : Goes c 1 (fun w' => Kept [c] w0 w') (AtProbe c 1 true (ad 2) (ad 1) (fun w2 => EndD w2 c T (probeM (ad 2) (ad 1) 0) D ∧ Kept [c] w0 w2)) (0 + 1 + 6) w := by
  obtain ⟨hS, hR⟩ := begY_start B (by simp [fwdC, fwdO])
  refine preO1 (v := 0) (t := 2) (o := 250) hR (fun _ KK => B.bas.to KK) hS (by decide) (by decide) (by decide) (by decide) (by decide) fun w1 h1 => ?_
  refine Goes.step1 hR (fun _ KK => B.bas.to KK) h1 (by decide) (by decide) (by decide) (ns_small (by intro N hN; simp at hN <;> omega)) (by simp) (fun w2 h2 => stepY_staticcall1 (179000 - 13) 2 1 240 0 fv D da dt dt h2 hR.hard hR.code hR.fd rfl hR.len (by decide) (by decide) (by decide) hR.se (by decide) target_two B.acc hda hdt hB (Nat.zero_le _) (by decide) (by decide) (by decide) (by decide) hD0 hD20 B.env.md B.size B.capM B.cap1) fun w2 hx => ?_
  obtain ⟨fb', cap', cur', pv, gv', sv, r7, cw', sg, vn, iu', b0, b1, b3, b6, vz', C, hV, hb, K⟩ := hx
  rw [hds] at C
  exact ⟨B.bas.to K, probe_back1 hR C hV (by decide) (by decide) (by decide) hb K B.bas ((B.env.keptN K hR.hard).with vz') (fwdO_tail 2 250) (by decide) (by have e := B.inn 0 (by decide); exact e) (frG_cells B.inn B.ngv.one B.nfv.one B.ncw.one B.niu.one B.one) creates_four (by decide) (by decide)⟩
theorem crun_4 {w0 w : World} {c fb cap : Nat} {E : XEnv} {cur : Array Value} {gv fv cw iu a0 a1 a3 a6 : Value} {v : Nat} {D : List AD} {T : Nat} (B : BegY w0 w c fb cap E cur gv fv cw iu a0 a1 a3 a6 1 v (fwdO 3 250) (laT 1) D T) (da dt : AD) (hda : D.find? (fun x => x.adr == ad 1) = some da) (hdt : D.find? (fun x => x.adr == ad 3) = some dt) (hds : dt.ds = (fwdC 0 2)) (hB : da.B < 256 ^ 100) (hD0 : 0 < D.length) (hD20 : D.length ≤ 20) (dp : AD) (hd3 : D.find? (fun x => x.adr == ad 3) = some dt) (hdp : D.find? (fun x => x.adr == ad 2) = some dp) (hdsp : dp.ds = probeL) (hB3 : dt.B < 256 ^ 100) : Goes c 2 (fun w' => Kept [c] w0 w') (AtProbe c 2 true (ad 2) (ad 3) (fun w2 => EndD w2 c T (probeM (ad 2) (ad 3) 0) D ∧ Kept [c] w0 w2)) (0 + 1 + 7 + 1 + 6) w := by
  obtain ⟨hS, hR⟩ := begY_start B (by simp [fwdC, fwdO])
  refine preO1 (v := 0) (t := 3) (o := 250) hR (fun _ KK => B.bas.to KK) hS (by decide) (by decide) (by decide) (by decide) (by decide) fun w1 h1 => ?_
  refine Goes.step1 hR (fun _ KK => B.bas.to KK) h1 (by decide) (by decide) (by decide) (ns_small (by intro N hN; simp at hN <;> omega)) (by simp) (fun w2 h2 => stepY_staticcall1 (179000 - 13) 3 1 240 0 fv D da dt dt h2 hR.hard hR.code hR.fd rfl hR.len (by decide) (by decide) (by decide) hR.se (by decide) target_three B.acc hda hdt hB (Nat.zero_le _) (by decide) (by decide) (by decide) (by decide) hD0 hD20 B.env.md B.size B.capM B.cap1) fun w2 hx => ?_
  obtain ⟨fb', cap', cur', pv, gv', sv, r7, cw', sg, vn, iu', b0, b1, b3, b6, vz', C, hV, hb, K⟩ := hx
  rw [hds] at C
  obtain ⟨hS2, hR2⟩ := callY_start C (by simp [fwdC, fwdO])
  refine preC2 (v := 0) (t := 2) (o := 0) hR2 (fun _ KK => (B.bas.next K hb).to KK) hS2 (by decide) (by decide) (by decide) (by decide) (by decide) fun w3 h3 => ?_
  refine Goes.step2 hR2 (fun _ KK => (B.bas.next K hb).to KK) h3 (by decide) (by decide) (by decide) (ns_small (by intro N hN; simp at hN <;> omega)) (by simp) (fun w4 h4 => stepY_call2 ((min (179000 - 13) ((179000 - 13 - 2600) - (179000 - 13 - 2600) / 64)) - 16) 2 3 1 0 vn D dt dp dp h4 hR2.hard hR2.code hR2.fd rfl hR2.len (by decide) (by decide) (by decide) hR2.se (by decide) target_two C.acc hd3 hdp hB3 (Nat.zero_le _) (by decide) (by decide) (by decide) (by decide) hD0 hD20 B.env.md C.size C.capM C.cap2 rfl) fun w4 hx2 => ?_
  obtain ⟨fb2, cap2, cur2, pv2, gv2, sv2, r72, cw2, sg2, vn2, iu2, e0, e1, e3, e6, vz2, C2, hV2, hb2, K2⟩ := hx2
  rw [hdsp] at C2
  exact ⟨(B.bas.next K hb).to K2, probe_back2 hR C C2 hV2 (by decide) (by decide) (by decide) hb K hb2 K2 B.bas ((((B.env.keptN K hR.hard).with vz').keptN K2 hR2.hard).with vz2) (fwdO_tail 3 250) (fwdC_tail 0 2) (by decide) (by decide) (by decide) (by have e := B.inn 0 (by decide); exact e) (frG_cells B.inn B.ngv.one B.nfv.one B.ncw.one B.niu.one B.one) creates_four creates_two (by decide) (by decide) (by decide)⟩
theorem crun_5 {w0 w : World} {c fb cap : Nat} {E : XEnv} {cur : Array Value} {gv fv cw iu a0 a1 a3 a6 : Value} {v : Nat} {D : List AD} {T : Nat} (B : BegY w0 w c fb cap E cur gv fv cw iu a0 a1 a3 a6 1 v (fwdO 3 250) (laT 1) D T) (da dt : AD) (hda : D.find? (fun x => x.adr == ad 1) = some da) (hdt : D.find? (fun x => x.adr == ad 3) = some dt) (hds : dt.ds = (fwdO 2 244)) (hB : da.B < 256 ^ 100) (hD0 : 0 < D.length) (hD20 : D.length ≤ 20) (dp : AD) (hd3 : D.find? (fun x => x.adr == ad 3) = some dt) (hdp : D.find? (fun x => x.adr == ad 2) = some dp) (hdsp : dp.ds = probeL) (hB3 : dt.B < 256 ^ 100) : Goes c 2 (fun w' => Kept [c] w0 w') (AtProbe c 2 true (ad 3) (ad 1) (fun w2 => EndD w2 c T (probeM (ad 3) (ad 1) 0) D ∧ Kept [c] w0 w2)) (0 + 1 + 6 + 1 + 6) w := by
  obtain ⟨hS, hR⟩ := begY_start B (by simp [fwdC, fwdO])
  refine preO1 (v := 0) (t := 3) (o := 250) hR (fun _ KK => B.bas.to KK) hS (by decide) (by decide) (by decide) (by decide) (by decide) fun w1 h1 => ?_
  refine Goes.step1 hR (fun _ KK => B.bas.to KK) h1 (by decide) (by decide) (by decide) (ns_small (by intro N hN; simp at hN <;> omega)) (by simp) (fun w2 h2 => stepY_staticcall1 (179000 - 13) 3 1 240 0 fv D da dt dt h2 hR.hard hR.code hR.fd rfl hR.len (by decide) (by decide) (by decide) hR.se (by decide) target_three B.acc hda hdt hB (Nat.zero_le _) (by decide) (by decide) (by decide) (by decide) hD0 hD20 B.env.md B.size B.capM B.cap1) fun w2 hx => ?_
  obtain ⟨fb', cap', cur', pv, gv', sv, r7, cw', sg, vn, iu', b0, b1, b3, b6, vz', C, hV, hb, K⟩ := hx
  rw [hds] at C
  obtain ⟨hS2, hR2⟩ := callY_start C (by simp [fwdC, fwdO])
  refine preO2 (v := 0) (t := 2) (o := 244) hR2 (fun _ KK => (B.bas.next K hb).to KK) hS2 (by decide) (by decide) (by decide) (by decide) (by decide) fun w3 h3 => ?_
  refine Goes.step2 hR2 (fun _ KK => (B.bas.next K hb).to KK) h3 (by decide) (by decide) (by decide) (ns_small (by intro N hN; simp at hN <;> omega)) (by simp) (fun w4 h4 => stepY_delegatecall2 ((min (179000 - 13) ((179000 - 13 - 2600) - (179000 - 13 - 2600) / 64)) - 13) 2 3 1 0 vn D dt dp dp h4 hR2.hard hR2.code hR2.fd rfl hR2.len (by decide) (by decide) (by decide) hR2.se hR2.ca (by have e := C.inn 5 (by decide); exact e) hV.one (by decide) target_two C.acc hd3 hdp hB3 (Nat.zero_le _) (by decide) (by decide) (by decide) (by decide) hD0 hD20 B.env.md C.size C.capM C.cap2) fun w4 hx2 => ?_
  obtain ⟨fb2, cap2, cur2, pv2, gv2, sv2, r72, cw2, sg2, vn2, iu2, e0, e1, e3, e6, vz2, C2, hV2, hb2, K2⟩ := hx2
  rw [hdsp] at C2
  exact ⟨(B.bas.next K hb).to K2, probe_back2 hR C C2 (hV.keptN K2 hR2.hard) (by decide) (by decide) (by decide) hb K hb2 K2 B.bas ((((B.env.keptN K hR.hard).with vz').keptN K2 hR2.hard).with vz2) (fwdO_tail 3 250) (fwdO_tail 2 244) (by decide) (by decide) (by decide) (by have e := B.inn 0 (by decide); exact e) (frG_cells B.inn B.ngv.one B.nfv.one B.ncw.one B.niu.one B.one) creates_four creates_three (by decide) (by decide) (by decide)⟩
end Go.Proofs.YgcsalGreat

/-
  The steps of a run with memory: MCOPY, RETURNDATACOPY, EXTCODECOPY.
-/
import Derived.Test.YgcsalGreatCp14
set_option linter.unusedSimpArgs false
set_option linter.unusedVariables false
namespace Go.Own
section
variable {wB : World} {c fbB : Nat} {E : CEnv} {S : List Nat} {rr fb q n cap : Nat} {fs0 : Array Value} {m G : Nat} {ns : List Nat} {mv : Value} {mem : List Nat} {W : Nat} {rt : Value} {rd : List Nat} {la la' : List (List Nat)} {w w' w1 : World}
/-- Only the chain's row was written. -/
theorem StM.chain (h : StM wB c fbB E S rr fb q n cap fs0 m G ns mv mem W rt rd la w) (K : Kept [c] w w') (hC : ChX w' c E (.slice (some ⟨fb, 0, none⟩) n cap) rt la') : StM wB c fbB E S rr fb q n cap fs0 m G ns mv mem W rt rd la' w' := by
  obtain ⟨cs, c1, c9, c10, c11, cn⟩ := h.ch.row
  exact ⟨h.k.trans (K.mono (by simp)), h.b, hC, h.fr.keptC K c1 cn (by decide) (by decide), h.mm.keptC K c1 cn, h.sm, h.len, h.wle, h.rt.keptC K c1 cn, fun b hb => Nat.lt_of_lt_of_le (h.sl b hb) K.size⟩
/-- The memory and the chain were written, then the frame's row. -/
theorem StM.write2 {rr' m' G' mb : Nat} {ns' mem' : List Nat} (h : StM wB c fbB E S rr fb q n cap fs0 m G ns mv mem W rt rd la w) (hmb : w.heap[mb]? = some (R8 5 mem)) (hmv : mv = .slice (some ⟨mb, 0, none⟩) mem.length mem.length) (hS : S = [mb]) (hB : wB.heap.size ≤ mb) (h0 : 0 < mem.length) (K1 : Kept [c, mb] w w1) (hC : ChX w1 c E (.slice (some ⟨fb, 0, none⟩) n cap) rt la') (hr1 : w1.heap[mb]? = some (R8 5 mem')) (hl : mem'.length = mem.length) (hs : Small mem') (K2 : Kept [fb] w1 w') (hF : FrameM S rr' w' fb q fs0 m' G' ns' mv) : StM wB c fbB E S rr' fb q n cap fs0 m' G' ns' mv mem' W rt rd la' w' := by
  obtain ⟨fs, f1, _, _, _, fn⟩ := h.fr.row
  obtain ⟨cs, c1, _, _, _, cn⟩ := h.ch.row
  have hmb' : w.heap[mb]? = some (.cells (mem.map n8).toArray 5 (0, 0)) := hmb
  have nfb : fb ∉ [c, mb] := by
    intro hx
    simp only [List.mem_cons, List.mem_singleton, List.not_mem_nil, or_false] at hx
    rcases hx with rfl | rfl
    · rw [f1] at c1; cases c1
    · rw [f1] at hmb'; cases hmb'
  have f2 : w1.heap[fb]? = some (.cells fs 142 (0, 0)) := K1.row f1 nfb
  have k1 : Kept [c, fbB] wB w1 := by
    refine ⟨K1.os.trans h.k.os, K1.tape.trans h.k.tape, K1.output.trans h.k.output, Nat.le_trans h.k.size K1.size, fun i hi hx => ?_⟩
    rw [K1.block i (Nat.lt_of_lt_of_le hi h.k.size) (by simp at hx ⊢; exact ⟨hx.1, by omega⟩)]
    exact h.k.block i hi hx
  have hrt1 : NatS S w1 rt rd := by
    refine ⟨?_, h.rt.2⟩
    obtain ⟨p, cc, e, h1, h2, hd, hsm⟩ := h.rt.1
    refine ⟨p, cc, e, h1, h2, ?_, hsm⟩
    rcases hd with hd | ⟨b, t, cs2, rfl, hr, hp⟩
    · exact .inl hd
    · by_cases hrd : rd = []
      · exact .inl hrd
      refine .inr ⟨b, t, cs2, rfl, K1.row hr ?_, hp⟩
      intro hx
      simp only [List.mem_cons, List.mem_singleton, List.not_mem_nil, or_false] at hx
      rcases hx with rfl | rfl
      · rw [hr] at c1; exact cn t cs2 (Option.some.inj c1).symm
      · rcases h.rt.2 with h3 | h3
        · exact hrd h3
        · exact h3 b (by rw [e]; rfl) (by rw [hS]; simp)
  refine ⟨k1.since K2 h.b, h.b, hC.frame K2 f2, hF, .inr ⟨mb, by rw [hmv, hl], K2.row hr1 (row_ne f2 hr1 (fun e => fn _ _ e.symm)), hS, hB, by omega⟩, hs, by rw [hl]; exact h.len, h.wle, hrt1.keptC K2 f2 fn, fun b hb => Nat.lt_of_lt_of_le (h.sl b hb) (Nat.le_trans K1.size K2.size)⟩
theorem StatW.kept {ds1 ds2 : List Nat} (h : StatW w E ds1 ds2) (k : Kept [] w w') : StatW w' E ds1 ds2 := h.keptN k (fun x hx => by cases hx)
end
end Go.Own
namespace Go.Proofs.YgcsalGreat
open Go.RowKit Go.Own
theorem warm_X (c i : Nat) (E : CEnv) (fr rt : Value) (la : List (List Nat)) (w : World) (hC : ChX w c E fr rt la) (hi : i < 256) (hl : la.length ≤ 20) :
    Calls Salg.prog 93 #[.pointer (some ⟨c, 0, none⟩), A8 (ad i)] w fun e w' => ∃ r, e = .returned r ∧ ChX w' c E fr rt (adWith la (ad i)) ∧ Kept [c] w w' := by
  obtain ⟨wz, c1, c2⟩ := hC
  refine (warm_any c 119 _ wz la (ad i) w c1 (by kernel_rfl) c2 (ad_ok i hi) (by omega) (by decide)).mono ?_
  rintro e w' ⟨r, v', rfl, K1, hr, hm⟩
  refine ⟨r, rfl, ⟨v', ?_, hm⟩, K1⟩
  rw [hr]
  exact congrArg (fun x => some (Obj.cells x 119 (0, 0))) (show (chM E.vz wz nilS nilS fr rt 1 0 E.lim E.gv nilS E.pr E.tv).setIfInBounds 1 v' = chM E.vz v' nilS nilS fr rt 1 0 E.lim E.gv nilS E.pr E.tv from by kernel_rfl)
theorem access_X (c i : Nat) (E : CEnv) (fr rt : Value) (la : List (List Nat)) (w : World) (hC : ChX w c E fr rt la) (hi : i < 256) (hn : ad i ∉ la) :
    Calls Salg.prog 242 #[.pointer (some ⟨c, 0, none⟩), A8 (ad i)] w fun e w' => ∃ r, e = .returned r ∧ NumV w' r 2600 ∧ Kept [] w w' := by
  obtain ⟨wz, c1, c2⟩ := hC
  exact access_false c 119 _ wz la (ad i) w c1 (by kernel_rfl) c2 (ad_ok i hi) (by simpa using hn)
theorem account_X1 (c : Nat) (E : CEnv) (fr rt : Value) (la : List (List Nat)) (ds1 ds2 : List Nat) (w : World) (hC : ChX w c E fr rt la) (hE : StatW w E ds1 ds2) :
    Calls Salg.prog 85 #[.pointer (some ⟨c, 0, none⟩), A8 (ad 1)] w fun e w' => e = .returned (.agg (acN 1 E.nv E.bv E.cu nilS).cells.toArray) ∧ Kept [] w w' := by
  obtain ⟨wz, c1, c2⟩ := hC
  exact account_1 c 119 _ E.vz E.nv E.bv E.cu nilS E.nv2 E.bv2 E.cu2 E.nv3 E.bv3 w c1 (by kernel_rfl) hE.acs
theorem account_X2 (c : Nat) (E : CEnv) (fr rt : Value) (la : List (List Nat)) (ds1 ds2 : List Nat) (w : World) (hC : ChX w c E fr rt la) (hE : StatW w E ds1 ds2) :
    Calls Salg.prog 85 #[.pointer (some ⟨c, 0, none⟩), A8 (ad 2)] w fun e w' => e = .returned (.agg (acN 2 E.nv2 E.bv2 E.cu2 nilS).cells.toArray) ∧ Kept [] w w' := by
  obtain ⟨wz, c1, c2⟩ := hC
  exact account_2 c 119 _ E.vz E.nv E.bv E.cu nilS E.nv2 E.bv2 E.cu2 E.nv3 E.bv3 w c1 (by kernel_rfl) hE.acs
theorem stepX_mcopy1 {wB : World} {c fbB : Nat} {E : CEnv} {rr fb cap : Nat} {fs0 : Array Value} {m G : Nat} {ns : List Nat} {mem : List Nat} {W : Nat} {rt : Value} {rd : List Nat} {la : List (List Nat)} {w : World} {cv : Value} {ds : List Nat} (N O D : Nat) (hE : StE wB c fbB E rr fb 0 1 cap fs0 m G (ns ++ [N, O, D]) mem W rt rd la w) (hH : Hard [c, fbB] wB) (hcv : NatV wB cv ds) (hfc : FrD fs0 0 cv) (hm : ds[m]? = some 94) (hl : ds.length ≤ 1000) (hns : ns.length ≤ 20) (hm1 : m ≤ 900) (hkG : (3 + 3 * wds N + growC W (max (endN D N) (endN O N))) ≤ G) (hG : G ≤ 1000000) (hrr : ns.length ≤ rr) (hrr2 : rr ≤ (ns ++ [N, O, D]).length) (hD : D ≤ 300) (hN : N ≤ 300) (h00 : 0 < mem.length) (hO : O ≤ 300) :
    Calls Salg.prog 27 #[.pointer (some ⟨c, 0, none⟩)] w fun e w' => e = .returned (.bool true) ∧ StE wB c fbB E ns.length fb 0 1 cap fs0 (m + 1) (G - (3 + 3 * wds N + growC W (max (endN D N) (endN O N)))) ns (wrB (growB mem (max (endN D N) (endN O N))) D (cutB (growB mem (max (endN D N) (endN O N))) O N)) (max W (wds (max (endN D N) (endN O N)))) rt rd la w' := by
  obtain ⟨S, mv, hS⟩ := hE
  obtain ⟨cs, c1, c9, c10, c11, cn⟩ := hS.ch.row
  obtain ⟨mp, mc, em⟩ := hS.mm.cell
  have hG2 : G < 256 ^ 100 := Nat.lt_of_le_of_lt hG (by decide)
  have hcw := hcv.keptN hS.k hH
  have hwle := hS.wle
  have hUb : max (endN D N) (endN O N) ≤ 640 := (by have := endN_le D N; have := endN_le O N; omega)
  refine stepM_plain1 S rr c fb m G (3 + 3 * wds N + growC W (max (endN D N) (endN O N))) (max (endN D N) (endN O N)) 2 0 0 0 94 cs fs0 cap _ cv mv ds (fun w' => StE wB c fbB E rr fb 0 1 cap fs0 m (G - (3 + 3 * wds N + growC W (max (endN D N) (endN O N)))) (ns ++ [N, O, D]) (growB mem (max (endN D N) (endN O N))) (max W (wds (max (endN D N) (endN O N)))) rt rd la w') _ (fun _ _ => True) w (by decide) c1 c9 c11 hS.sl hS.fr hcw hm hl hfc hkG (Nat.lt_of_lt_of_le hG2 (by decide)) ?_ ?_ ?_ family_mcopy (by decide) ?_
  · intro w' K1
    have hF := hS.fr.kept K1
    refine refusalD_mcopy _ fb 0 m G _ fs0 cv _ _ w' hF.toQ hfc (by simp) (by simp; omega) hkG fun w1 K2 => ?_
    have hF1 := hF.kept K2
    obtain ⟨fs, f1, _, _, f9, _⟩ := hF1.row
    rw [em] at f9
    refine costM_any _ fb 0 94 (3 + 3 * wds N) (max (endN D N) (endN O N)) mem.length W fs mp mc w1 f1 f9 (Nat.lt_of_le_of_lt (Nat.le_trans (Nat.le_add_right _ _) hkG) hG2) hS.len (by omega) (by omega) (fun w2 K3 => ?_) (fun w2 K3 => ?_)
    · have hF2 := (hF1.kept K3).toQ
      exact bareCost_mcopy _ N O D fb 0 m G fs0 _ ns w2 hF2 (by omega) (by omega)
    · have hF2 := (hF1.kept K3).toQ
      exact reach_mcopy N O D fb 0 m G fs0 _ ns w2 hF2 (by omega) (by omega) (by omega) (by omega)
  · intro w' K1 hF
    have hF2 := hF.toQ
    exact reach_mcopy N O D fb 0 m (G - (3 + 3 * wds N + growC W (max (endN D N) (endN O N)))) fs0 _ ns w' hF2 (by omega) (by omega) (by omega) (by omega)
  · intro w' r K1 hF hr
    exact grow_S (max (endN D N) (endN O N)) r (hS.frame K1 hF) hr (by omega) hrr2
  · rintro w' K1 ⟨S', mv', hS2⟩
    have hge := growB_ge (U := max (endN D N) (endN O N)) hS.len
    have hgl := growB_length (U := max (endN D N) (endN O N)) hS.len
    have hsl2 : Small (growB mem (max (endN D N) (endN O N))) := growB_small hS.sm _
    have hsml : Small (wrB (growB mem (max (endN D N) (endN O N))) D (cutB (growB mem (max (endN D N) (endN O N))) O N)) := wrB_small (growB_small hS.sm _) (cutB_small hsl2 _ _)
    have hU2 : N = 0 ∨ D + N ≤ (growB mem (max (endN D N) (endN O N))).length := by
      by_cases hN0 : N = 0
      · exact .inl hN0
      · have : endN D N = D + N := (by unfold endN; rw [if_neg hN0])
        exact .inr (by omega)
    have h0 : 0 < (growB mem (max (endN D N) (endN O N))).length := by rw [growB_length hS.len]; have := hS.len; omega
    have hlen : (wrB (growB mem (max (endN D N) (endN O N))) D (cutB (growB mem (max (endN D N) (endN O N))) O N)).length = (growB mem (max (endN D N) (endN O N))).length := by
      rcases hU2 with hN0 | hU2
      · rw [hN0, cutB_zero, wrB_nil]
      · exact wrB_length (by rw [cutB_length]; exact hU2)
    obtain ⟨mb, rfl, hmb, rfl, hBm⟩ := hS2.memRow h0
    refine (plainM_mcopy [mb] rr 0 _ fb 0 m (G - (3 + 3 * wds N + growC W (max (endN D N) (endN O N)))) D O N 0 0 fs0 _ ns w' hS2.sl hS2.fr (by omega) (by omega) [mb] (fun w1 => w1.heap[mb]? = some (R8 5 (wrB (growB mem (max (endN D N) (endN O N))) D (cutB (growB mem (max (endN D N) (endN O N))) O N)))) (soft_mem hmb (by decide) (by simp)) hrr fun w1 a b n ab args K2 e1 e2 e3 e4 e5 e6 e7 => ?_).mono ?_
    · have hF1 := hS2.fr.kept K2
      have hS3 := hS2.kept K2
      obtain ⟨fs, f1, _, f2, f9, _⟩ := hF1.row
      exact effectM_mcopy _ a b n nilS c fb 0 mb ab D O N _ #[] fs args (growB mem (max (endN D N) (endN O N))) [] w1 f1 f9 (K2.row hmb (by simp)) rfl e1 e2 e3 e4 e5 e6 e7 (by omega) (growB_small hS.sm _) hU2 (by rw [hgl]; unfold wds; omega)
    · rintro e w'' ⟨r, w1, rfl, p1, p2, p3, p4⟩
      exact ⟨r, rfl, [mb], _, hS2.write hmb rfl rfl hBm h0 p2 p1 hlen hsml p3 p4⟩
theorem stepX_returndatacopy1 {wB : World} {c fbB : Nat} {E : CEnv} {rr fb cap : Nat} {fs0 : Array Value} {m G : Nat} {ns : List Nat} {mem : List Nat} {W : Nat} {rt : Value} {rd : List Nat} {la : List (List Nat)} {w : World} {cv : Value} {ds : List Nat} (N O D : Nat) (hE : StE wB c fbB E rr fb 0 1 cap fs0 m G (ns ++ [N, O, D]) mem W rt rd la w) (hH : Hard [c, fbB] wB) (hcv : NatV wB cv ds) (hfc : FrD fs0 0 cv) (hm : ds[m]? = some 62) (hl : ds.length ≤ 1000) (hns : ns.length ≤ 20) (hm1 : m ≤ 900) (hkG : (3 + 3 * wds N + growC W (endN D N)) ≤ G) (hG : G ≤ 1000000) (hrr : ns.length ≤ rr) (hrr2 : rr ≤ (ns ++ [N, O, D]).length) (hD : D ≤ 300) (hN : N ≤ 300) (h00 : 0 < mem.length) (hb : O + N ≤ rd.length) (hrl : rd.length ≤ 1000) :
    Calls Salg.prog 27 #[.pointer (some ⟨c, 0, none⟩)] w fun e w' => e = .returned (.bool true) ∧ StE wB c fbB E ns.length fb 0 1 cap fs0 (m + 1) (G - (3 + 3 * wds N + growC W (endN D N))) ns (wrB (growB mem (endN D N)) D (cutB rd O N)) (max W (wds (endN D N))) rt rd la w' := by
  obtain ⟨S, mv, hS⟩ := hE
  obtain ⟨cs, c1, c9, c10, c11, cn⟩ := hS.ch.row
  obtain ⟨mp, mc, em⟩ := hS.mm.cell
  have hG2 : G < 256 ^ 100 := Nat.lt_of_le_of_lt hG (by decide)
  have hcw := hcv.keptN hS.k hH
  have hwle := hS.wle
  have hUb : endN D N ≤ 640 := (by have := endN_le D N; omega)
  obtain ⟨rp, rq, ert⟩ : ∃ rp rq, rt = .slice rp rd.length rq := by
    obtain ⟨p, cc, e, _⟩ := hS.rt.1
    exact ⟨p, cc, e⟩
  have c10' := c10
  rw [ert] at c10'
  refine stepM_plain1 S rr c fb m G (3 + 3 * wds N + growC W (endN D N)) (endN D N) 2 0 0 0 62 cs fs0 cap _ cv mv ds (fun w' => StE wB c fbB E rr fb 0 1 cap fs0 m (G - (3 + 3 * wds N + growC W (endN D N))) (ns ++ [N, O, D]) (growB mem (endN D N)) (max W (wds (endN D N))) rt rd la w') _ (fun _ _ => True) w (by decide) c1 c9 c11 hS.sl hS.fr hcw hm hl hfc hkG (Nat.lt_of_lt_of_le hG2 (by decide)) ?_ ?_ ?_ family_returndatacopy (by decide) ?_
  · intro w' K1
    have hF := hS.fr.kept K1
    refine refusalD_returndatacopy fb 0 m G _ fs0 cv _ _ w' hF.toQ hfc (by simp) (by simp; omega) hkG c cs rp rq rd.length N O D ns rfl (K1.row c1 (by simp)) c10' (by omega) (by omega) (by omega) hb fun w1 K2 => ?_
    have hF1 := hF.kept K2
    obtain ⟨fs, f1, _, _, f9, _⟩ := hF1.row
    rw [em] at f9
    refine costM_any _ fb 0 62 (3 + 3 * wds N) (endN D N) mem.length W fs mp mc w1 f1 f9 (Nat.lt_of_le_of_lt (Nat.le_trans (Nat.le_add_right _ _) hkG) hG2) hS.len (by omega) (by omega) (fun w2 K3 => ?_) (fun w2 K3 => ?_)
    · have hF2 := (hF1.kept K3).toQ
      exact bareCost_returndatacopy _ N O D fb 0 m G fs0 _ ns w2 hF2 (by omega) (by omega)
    · have hF2 := (hF1.kept K3).toQ
      exact reach_returndatacopy N O D fb 0 m G fs0 _ ns w2 hF2 (by omega) (by omega) (by omega)
  · intro w' K1 hF
    have hF2 := hF.toQ
    exact reach_returndatacopy N O D fb 0 m (G - (3 + 3 * wds N + growC W (endN D N))) fs0 _ ns w' hF2 (by omega) (by omega) (by omega)
  · intro w' r K1 hF hr
    exact grow_S (endN D N) r (hS.frame K1 hF) hr (by omega) hrr2
  · rintro w' K1 ⟨S', mv', hS2⟩
    have hge := growB_ge (U := endN D N) hS.len
    have hgl := growB_length (U := endN D N) hS.len
    have hsl2 : Small rd := hS.rt.1.small
    have hsml : Small (wrB (growB mem (endN D N)) D (cutB rd O N)) := wrB_small (growB_small hS.sm _) (cutB_small hsl2 _ _)
    have hU2 : N = 0 ∨ D + N ≤ (growB mem (endN D N)).length := by
      by_cases hN0 : N = 0
      · exact .inl hN0
      · have : endN D N = D + N := (by unfold endN; rw [if_neg hN0])
        exact .inr (by omega)
    have h0 : 0 < (growB mem (endN D N)).length := by rw [growB_length hS.len]; have := hS.len; omega
    have hlen : (wrB (growB mem (endN D N)) D (cutB rd O N)).length = (growB mem (endN D N)).length := by
      rcases hU2 with hN0 | hU2
      · rw [hN0, cutB_zero, wrB_nil]
      · exact wrB_length (by rw [cutB_length]; exact hU2)
    obtain ⟨mb, rfl, hmb, rfl, hBm⟩ := hS2.memRow h0
    refine (plainM_returndatacopy [mb] rr 0 _ fb 0 m (G - (3 + 3 * wds N + growC W (endN D N))) D O N 0 0 fs0 _ ns w' hS2.sl hS2.fr (by omega) (by omega) [mb] (fun w1 => w1.heap[mb]? = some (R8 5 (wrB (growB mem (endN D N)) D (cutB rd O N)))) (soft_mem hmb (by decide) (by simp)) hrr fun w1 a b n ab args K2 e1 e2 e3 e4 e5 e6 e7 => ?_).mono ?_
    · have hF1 := hS2.fr.kept K2
      have hS3 := hS2.kept K2
      obtain ⟨fs, f1, _, f2, f9, _⟩ := hF1.row
      obtain ⟨cs3, g1, g9, g10, g11, gn⟩ := hS3.ch.row
      exact effectM_returndatacopy nilS a b n _ c fb 0 mb ab D O N _ cs3 fs args (growB mem (endN D N)) rd w1 f1 f9 (K2.row hmb (by simp)) rfl g1 g10 hS3.rt.1 e1 e2 e3 e4 e5 e6 e7 (by omega) hrl hU2 (by rw [hgl]; unfold wds; omega)
    · rintro e w'' ⟨r, w1, rfl, p1, p2, p3, p4⟩
      exact ⟨r, rfl, [mb], _, hS2.write hmb rfl rfl hBm h0 p2 p1 hlen hsml p3 p4⟩
theorem stepX_extcodecopy1 {wB : World} {c fbB : Nat} {E : CEnv} {rr fb cap : Nat} {fs0 : Array Value} {m G : Nat} {ns : List Nat} {mem : List Nat} {W : Nat} {rt : Value} {rd : List Nat} {la : List (List Nat)} {w : World} {cv : Value} {ds : List Nat} (N O D : Nat) (ds1 ds2 : List Nat) (hE : StE wB c fbB E rr fb 0 1 cap fs0 m G (ns ++ [N, O, D, 2]) mem W rt rd la w) (hH : Hard [c, fbB] wB) (hcv : NatV wB cv ds) (hfc : FrD fs0 0 cv) (hm : ds[m]? = some 60) (hl : ds.length ≤ 1000) (hns : ns.length ≤ 20) (hm1 : m ≤ 900) (hkG : (2600 + 3 * wds N + growC W (endN D N)) ≤ G) (hG : G ≤ 1000000) (hrr : ns.length ≤ rr) (hrr2 : rr ≤ (ns ++ [N, O, D, 2]).length) (hD : D ≤ 300) (hN : N ≤ 300) (h00 : 0 < mem.length) (hSt : StatW wB E ds1 ds2) (hn2 : ad 2 ∉ la) (hla : la.length ≤ 20) (hl2 : ds2.length ≤ 1000) :
    Calls Salg.prog 27 #[.pointer (some ⟨c, 0, none⟩)] w fun e w' => e = .returned (.bool true) ∧ StE wB c fbB E ns.length fb 0 1 cap fs0 (m + 1) (G - (2600 + 3 * wds N + growC W (endN D N))) ns (wrB (growB mem (endN D N)) D (cutB ds2 O N)) (max W (wds (endN D N))) rt rd (adWith la (ad 2)) w' := by
  obtain ⟨S, mv, hS⟩ := hE
  obtain ⟨cs, c1, c9, c10, c11, cn⟩ := hS.ch.row
  obtain ⟨mp, mc, em⟩ := hS.mm.cell
  have hG2 : G < 256 ^ 100 := Nat.lt_of_le_of_lt hG (by decide)
  have hcw := hcv.keptN hS.k hH
  have hwle := hS.wle
  have hUb : endN D N ≤ 640 := (by have := endN_le D N; omega)
  refine stepM_plain1 S rr c fb m G (2600 + 3 * wds N + growC W (endN D N)) (endN D N) 2 0 0 0 60 cs fs0 cap _ cv mv ds (fun w' => StE wB c fbB E rr fb 0 1 cap fs0 m (G - (2600 + 3 * wds N + growC W (endN D N))) (ns ++ [N, O, D, 2]) (growB mem (endN D N)) (max W (wds (endN D N))) rt rd la w') _ (fun _ _ => True) w (by decide) c1 c9 c11 hS.sl hS.fr hcw hm hl hfc hkG (Nat.lt_of_lt_of_le hG2 (by decide)) ?_ ?_ ?_ family_extcodecopy (by decide) ?_
  · intro w' K1
    have hF := hS.fr.kept K1
    refine refusalD_extcodecopy _ fb 0 m G _ fs0 cv _ _ w' hF.toQ hfc (by simp) (by simp; omega) hkG fun w1 K2 => ?_
    have hF1 := hF.kept K2
    obtain ⟨fs, f1, _, _, f9, _⟩ := hF1.row
    rw [em] at f9
    refine costM_any _ fb 0 60 (2600 + 3 * wds N) (endN D N) mem.length W fs mp mc w1 f1 f9 (Nat.lt_of_le_of_lt (Nat.le_trans (Nat.le_add_right _ _) hkG) hG2) hS.len (by omega) (by omega) (fun w2 K3 => ?_) (fun w2 K3 => ?_)
    · have hF2 := (hF1.kept K3).toQ
      exact bareCost_extcodecopy c 2600 N O D fb 0 m G fs0 _ ns w2 hF2 (by omega) (by omega) (by decide) (fun w3 K4 => access_X c 2 E _ rt la w3 ((hS.ch.kept K1).kept ((K2.trans K3).trans K4)) (by decide) hn2)
    · have hF2 := (hF1.kept K3).toQ
      exact reach_extcodecopy N O D fb 0 m G fs0 _ ns w2 hF2 (by omega) (by omega) (by omega)
  · intro w' K1 hF
    have hF2 := hF.toQ
    exact reach_extcodecopy N O D fb 0 m (G - (2600 + 3 * wds N + growC W (endN D N))) fs0 _ ns w' hF2 (by omega) (by omega) (by omega)
  · intro w' r K1 hF hr
    exact grow_S (endN D N) r (hS.frame K1 hF) hr (by omega) hrr2
  · rintro w' K1 ⟨S', mv', hS2⟩
    have hge := growB_ge (U := endN D N) hS.len
    have hgl := growB_length (U := endN D N) hS.len
    have hsl2 : Small ds2 := hSt.cu2.small
    have hsml : Small (wrB (growB mem (endN D N)) D (cutB ds2 O N)) := wrB_small (growB_small hS.sm _) (cutB_small hsl2 _ _)
    have hU2 : N = 0 ∨ D + N ≤ (growB mem (endN D N)).length := by
      by_cases hN0 : N = 0
      · exact .inl hN0
      · have : endN D N = D + N := (by unfold endN; rw [if_neg hN0])
        exact .inr (by omega)
    have h0 : 0 < (growB mem (endN D N)).length := by rw [growB_length hS.len]; have := hS.len; omega
    have hlen : (wrB (growB mem (endN D N)) D (cutB ds2 O N)).length = (growB mem (endN D N)).length := by
      rcases hU2 with hN0 | hU2
      · rw [hN0, cutB_zero, wrB_nil]
      · exact wrB_length (by rw [cutB_length]; exact hU2)
    obtain ⟨mb, rfl, hmb, rfl, hBm⟩ := hS2.memRow h0
    have hsoft : Soft [mb] [c, mb] w' := by
      obtain ⟨cs3, g1, g9, g10, g11, gn⟩ := hS2.ch.row
      intro x hx
      simp only [List.mem_cons, List.mem_singleton, List.not_mem_nil, or_false] at hx
      rcases hx with rfl | rfl
      · exact ⟨cs3, 119, g1, by decide, by decide, .inr gn⟩
      · exact ⟨_, 5, hmb, by decide, by decide, .inl (by simp)⟩
    refine (plainM_extcodecopy [mb] rr 0 _ fb 0 m (G - (2600 + 3 * wds N + growC W (endN D N))) 2 D O N 0 fs0 _ ns w' hS2.sl hS2.fr (by omega) (by omega) [c, mb] (fun w1 => ChX w1 c E (.slice (some ⟨fb, 0, none⟩) 1 cap) rt (adWith la (ad 2)) ∧ w1.heap[mb]? = some (R8 5 (wrB (growB mem (endN D N)) D (cutB ds2 O N)))) hsoft hrr fun w1 a b n l ab args K2 e1 e2 e3 e4 e5 e6 e7 e8 e9 => ?_).mono ?_
    · have hS3 := hS2.kept K2
      obtain ⟨cs3, g1, g9, g10, g11, gn⟩ := hS3.ch.row
      obtain ⟨fs3, f3, _⟩ := hS3.fr.row
      refine (effectM_extcodecopy a b n l E.cu2 c fb 0 mb ab D O N mem.length fs3 args #[] (growB mem (endN D N)) ds2 w1 (fun w4 => Kept [c] w1 w4 ∧ ChX w4 c E (.slice (some ⟨fb, 0, none⟩) 1 cap) rt (adWith la (ad 2))) (fun w4 => ChX w4 c E (.slice (some ⟨fb, 0, none⟩) 1 cap) rt (adWith la (ad 2))) f3 e1 e2 e3 e4 e5 e6 (fun w4 K4 => ?_) (fun w4 w5 P4 K5 => ?_) (fun w4 w5 P4 K5 => ?_)).mono ?_
      · refine (warm_X c 2 E _ rt la w4 (hS3.ch.kept K4) (by decide) hla).mono ?_
        rintro e w5 ⟨r, rfl, x1, K5⟩
        have K6 : Kept [c] w1 w5 := (K4.mono (by simp)).trans K5
        exact ⟨r, rfl, ⟨K6, x1⟩, e6.keptC K6 g1 gn, K6.row e1 (row_ne g1 e1 (by rintro h; cases h)), K5⟩
      · refine (account_X2 c E _ rt _ ds1 ds2 w5 (P4.2.kept K5) ((hSt.keptN (hS3.k.trans (P4.1.mono (by simp))) hH).kept K5)).mono ?_
        rintro e w6 ⟨rfl, K6⟩
        exact ⟨_, _, _, rfl, rfl, K6⟩
      · have hS5 := (hS3.chain P4.1 P4.2).kept K5
        have hSt5 := hSt.keptN hS5.k hH
        obtain ⟨fs, f1, _, f2, f9, _⟩ := hS5.fr.row
        have hmb5 : w5.heap[mb]? = some (R8 5 (growB mem (endN D N))) := by
          obtain ⟨mb', q1, q2, _⟩ := hS5.memRow h0
          cases q1
          exact q2
        refine (copied_any fb 0 mb D O N _ fs b E.cu2 n l (growB mem (endN D N)) ds2 w5 f1 f9 hmb5 rfl ((e7.keptC P4.1 g1 gn).kept K5) hSt5.cu2 ((e8.keptC P4.1 g1 gn).kept K5) ((e9.keptC P4.1 g1 gn).kept K5) (by omega) hl2 hU2 (by rw [hgl]; unfold wds; omega)).mono ?_
        rintro e w6 ⟨r, rfl, x1, K6⟩
        exact ⟨r, rfl, hS5.ch.bytes K6 hmb5 (by decide), x1, K6⟩
      · rintro e w6 ⟨rfl, x1, x2, K6⟩
        exact ⟨rfl, ⟨x1, x2⟩, K6⟩
    · rintro e w'' ⟨r, w1, rfl, ⟨p0, p1⟩, p2, p3, p4⟩
      exact ⟨r, rfl, [mb], _, hS2.write2 hmb rfl rfl hBm h0 p2 p0 p1 hlen hsml p3 p4⟩
end Go.Proofs.YgcsalGreat

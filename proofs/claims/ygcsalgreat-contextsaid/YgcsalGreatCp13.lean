/-
  The steps of a run with memory: instructions that write it.
-/
import Derived.Test.YgcsalGreatCp12
set_option linter.unusedSimpArgs false
set_option linter.unusedVariables false
namespace Go.Own
section
variable {wB : World} {c fbB : Nat} {E : CEnv} {S : List Nat} {rr fb q n cap : Nat} {fs0 : Array Value} {m G : Nat} {ns : List Nat} {mv : Value} {mem : List Nat} {W : Nat} {rt : Value} {rd : List Nat} {la : List (List Nat)} {w w' w1 : World}
/-- The memory was written, then the frame's row. -/
theorem StM.write {rr' m' G' mb : Nat} {ns' mem' : List Nat} (h : StM wB c fbB E S rr fb q n cap fs0 m G ns mv mem W rt rd la w) (hmb : w.heap[mb]? = some (R8 5 mem)) (hmv : mv = .slice (some ⟨mb, 0, none⟩) mem.length mem.length) (hS : S = [mb]) (hB : wB.heap.size ≤ mb) (h0 : 0 < mem.length) (K1 : Kept [mb] w w1) (hr1 : w1.heap[mb]? = some (R8 5 mem')) (hl : mem'.length = mem.length) (hs : Small mem') (K2 : Kept [fb] w1 w') (hF : FrameM S rr' w' fb q fs0 m' G' ns' mv) : StM wB c fbB E S rr' fb q n cap fs0 m' G' ns' mv mem' W rt rd la w' := by
  obtain ⟨fs, f1, _, _, _, fn⟩ := h.fr.row
  have hso : Soft S [mb] w := soft_mem hmb (by decide) (by rw [hS]; simp)
  have f2 : w1.heap[fb]? = some (.cells fs 142 (0, 0)) := hso.row K1 f1 (.inl rfl)
  have k1 : Kept [c, fbB] wB w1 := h.k.since K1 (.inr hB)
  refine ⟨k1.since K2 h.b, h.b, (h.ch.bytes K1 hmb (by decide)).frame K2 f2, hF, .inr ⟨mb, by rw [hmv, hl], K2.row hr1 (row_ne f2 hr1 (fun e => fn _ _ e.symm)), hS, hB, by omega⟩, hs, by rw [hl]; exact h.len, h.wle, (h.rt.keptB K1 (by rw [hS]; simp)).keptC K2 f2 fn, fun b hb => Nat.lt_of_lt_of_le (h.sl b hb) (Nat.le_trans K1.size K2.size)⟩
theorem StM.memRow (h : StM wB c fbB E S rr fb q n cap fs0 m G ns mv mem W rt rd la w) (h0 : 0 < mem.length) : ∃ mb, mv = .slice (some ⟨mb, 0, none⟩) mem.length mem.length ∧ w.heap[mb]? = some (R8 5 mem) ∧ S = [mb] ∧ wB.heap.size ≤ mb := by
  rcases h.mm with ⟨h1, _⟩ | ⟨mb, h1, h2, h3, h4, _⟩
  · rw [h1] at h0
    simp at h0
  · exact ⟨mb, h1, h2, h3, h4⟩
end
end Go.Own
namespace Go.Proofs.YgcsalGreat
open Go.RowKit Go.Own
/-- grow on the state. -/
theorem grow_S {wB : World} {c fbB : Nat} {E : CEnv} {S : List Nat} {rr fb q n cap : Nat} {fs0 : Array Value} {m G : Nat} {ns : List Nat} {mv : Value} {mem : List Nat} {W : Nat} {rt : Value} {rd : List Nat} {la : List (List Nat)} {w : World} (U : Nat) (u : Value) (h : StM wB c fbB E S rr fb q n cap fs0 m G ns mv mem W rt rd la w) (hu : NumV w u U) (hU : U ≤ 640) (hrr : rr ≤ ns.length) :
    Calls Salg.prog 113 #[.pointer (some ⟨fb, q, none⟩), u] w fun e w' => ∃ r', e = .returned r' ∧ StE wB c fbB E rr fb q n cap fs0 m G ns (growB mem U) (max W (wds U)) rt rd la w' ∧ Kept [fb] w w' := by
  have hw := h.wle
  obtain ⟨fs, f1, _, _, _, fn⟩ := h.fr.row
  refine (growM_any wB S rr fb q m G U W fs0 ns mem mv u w h.k.size h.fr h.mm h.sl hu (by omega) h.len (by omega) hrr).mono ?_
  rintro e w' ⟨r, mv', S', rfl, e1, e2, e3, e4, K⟩
  have hwd : wds U ≤ 20 := by unfold wds; omega
  refine ⟨r, rfl, ⟨S', mv', h.k.since K h.b, h.b, h.ch.frame K f1, e1, e2, growB_small h.sm U, growB_length h.len, by omega, e3 _ _ h.rt, ?_⟩, K⟩
  exact e4
theorem stepX_mstore1 {wB : World} {c fbB : Nat} {E : CEnv} {rr fb cap : Nat} {fs0 : Array Value} {m G : Nat} {ns : List Nat} {mem : List Nat} {W : Nat} {rt : Value} {rd : List Nat} {la : List (List Nat)} {w : World} {cv : Value} {ds : List Nat} (A : Nat) (bs : List Nat) (hE : StE wB c fbB E rr fb 0 1 cap fs0 m G (ns ++ [be bs, A]) mem W rt rd la w) (hH : Hard [c, fbB] wB) (hcv : NatV wB cv ds) (hfc : FrD fs0 0 cv) (hm : ds[m]? = some 82) (hl : ds.length ≤ 1000) (hns : ns.length ≤ 20) (hm1 : m ≤ 900) (hkG : (3 + growC W (A + 32)) ≤ G) (hG : G ≤ 1000000) (hrr : ns.length ≤ rr) (hrr2 : rr ≤ (ns ++ [be bs, A]).length) (hb : bs.length = 32) (hs : Small bs) (hA : A ≤ 600) :
    Calls Salg.prog 27 #[.pointer (some ⟨c, 0, none⟩)] w fun e w' => e = .returned (.bool true) ∧ StE wB c fbB E ns.length fb 0 1 cap fs0 (m + 1) (G - (3 + growC W (A + 32))) ns (wrB (growB mem (A + 32)) A bs) (max W (wds (A + 32))) rt rd la w' := by
  obtain ⟨S, mv, hS⟩ := hE
  obtain ⟨cs, c1, c9, c10, c11, cn⟩ := hS.ch.row
  obtain ⟨mp, mc, em⟩ := hS.mm.cell
  have hG2 : G < 256 ^ 100 := Nat.lt_of_le_of_lt hG (by decide)
  have hcw := hcv.keptN hS.k hH
  have hwle := hS.wle
  refine stepM_plain1 S rr c fb m G (3 + growC W (A + 32)) (A + 32) 2 0 0 0 82 cs fs0 cap _ cv mv ds (fun w' => StE wB c fbB E rr fb 0 1 cap fs0 m (G - (3 + growC W (A + 32))) (ns ++ [be bs, A]) (growB mem (A + 32)) (max W (wds (A + 32))) rt rd la w') _ (fun _ _ => True) w (by decide) c1 c9 c11 hS.sl hS.fr hcw hm hl hfc hkG (Nat.lt_of_lt_of_le hG2 (by decide)) ?_ ?_ ?_ family_mstore (by decide) ?_
  · intro w' K1
    have hF := hS.fr.kept K1
    refine refusalD_mstore _ fb 0 m G _ fs0 cv _ _ w' hF.toQ hfc (by simp) (by simp; omega) hkG fun w1 K2 => ?_
    have hF1 := hF.kept K2
    obtain ⟨fs, f1, _, _, f9, _⟩ := hF1.row
    rw [em] at f9
    refine costM_any _ fb 0 82 (3) (A + 32) mem.length W fs mp mc w1 f1 f9 (Nat.lt_of_le_of_lt (Nat.le_trans (Nat.le_add_right _ _) hkG) hG2) hS.len (by omega) (by omega) (fun w2 K3 => ?_) (fun w2 K3 => ?_)
    · have hF2 := (hF1.kept K3).toQ
      exact bareCost_mstore _ _ w2
    · have hF2 := (hF1.kept K3).toQ
      exact reach_mstore fb 0 A (be bs) m G fs0 _ ns w2 hF2 (by omega) (by omega)
  · intro w' K1 hF
    have hF2 := hF.toQ
    exact reach_mstore fb 0 A (be bs) m (G - (3 + growC W (A + 32))) fs0 _ ns w' hF2 (by omega) (by omega)
  · intro w' r K1 hF hr
    exact grow_S (A + 32) r (hS.frame K1 hF) hr (by omega) hrr2
  · rintro w' K1 ⟨S', mv', hS2⟩
    have hge := growB_ge (U := A + 32) hS.len
    have h0 : 0 < (growB mem (A + 32)).length := by omega
    have hlen : (wrB (growB mem (A + 32)) A bs).length = (growB mem (A + 32)).length := wrB_length (by omega)
    have hsml : Small (wrB (growB mem (A + 32)) A bs) := wrB_small (growB_small hS.sm _) hs
    obtain ⟨mb, rfl, hmb, rfl, hBm⟩ := hS2.memRow h0
    refine (plainM_mstore [mb] rr 0 _ fb 0 m (G - (3 + growC W (A + 32))) A (be bs) 0 0 0 fs0 _ ns w' hS2.sl hS2.fr (by omega) (by omega) [mb] (fun w1 => w1.heap[mb]? = some (R8 5 (wrB (growB mem (A + 32)) A bs))) (soft_mem hmb (by decide) (by simp)) hrr fun w1 a b ab args K2 e1 e2 e3 e4 e5 => ?_).mono ?_
    · have hF1 := hS2.fr.kept K2
      have hS3 := hS2.kept K2
      obtain ⟨fs, f1, _, f2, f9, _⟩ := hF1.row
      exact effectM_mstore _ a b fb 0 mb ab A _ fs args (growB mem (A + 32)) bs w1 f1 f9 (K2.row hmb (by simp)) rfl e1 e2 e3 e4 e5 hb hs (growB_ge hS.len) (by rw [growB_length hS.len]; unfold wds; omega)
    · rintro e w'' ⟨r, w1, rfl, p1, p2, p3, p4⟩
      exact ⟨r, rfl, [mb], _, hS2.write hmb rfl rfl hBm h0 p2 p1 hlen hsml p3 p4⟩
theorem stepX_mstore2 {wB : World} {c fbB : Nat} {E : CEnv} {rr fb cap : Nat} {fs0 : Array Value} {m G : Nat} {ns : List Nat} {mem : List Nat} {W : Nat} {rt : Value} {rd : List Nat} {la : List (List Nat)} {w : World} {cv : Value} {ds : List Nat} (A : Nat) (bs : List Nat) (hE : StE wB c fbB E rr fb 60 2 cap fs0 m G (ns ++ [be bs, A]) mem W rt rd la w) (hH : Hard [c, fbB] wB) (hcv : NatV wB cv ds) (hfc : FrD fs0 60 cv) (hm : ds[m]? = some 82) (hl : ds.length ≤ 1000) (hns : ns.length ≤ 20) (hm1 : m ≤ 900) (hkG : (3 + growC W (A + 32)) ≤ G) (hG : G ≤ 1000000) (hrr : ns.length ≤ rr) (hrr2 : rr ≤ (ns ++ [be bs, A]).length) (hb : bs.length = 32) (hs : Small bs) (hA : A ≤ 600) :
    Calls Salg.prog 27 #[.pointer (some ⟨c, 0, none⟩)] w fun e w' => e = .returned (.bool true) ∧ StE wB c fbB E ns.length fb 60 2 cap fs0 (m + 1) (G - (3 + growC W (A + 32))) ns (wrB (growB mem (A + 32)) A bs) (max W (wds (A + 32))) rt rd la w' := by
  obtain ⟨S, mv, hS⟩ := hE
  obtain ⟨cs, c1, c9, c10, c11, cn⟩ := hS.ch.row
  obtain ⟨mp, mc, em⟩ := hS.mm.cell
  have hG2 : G < 256 ^ 100 := Nat.lt_of_le_of_lt hG (by decide)
  have hcw := hcv.keptN hS.k hH
  have hwle := hS.wle
  refine stepM_plain2 S rr c fb m G (3 + growC W (A + 32)) (A + 32) 2 0 0 0 82 cs fs0 cap _ cv mv ds (fun w' => StE wB c fbB E rr fb 60 2 cap fs0 m (G - (3 + growC W (A + 32))) (ns ++ [be bs, A]) (growB mem (A + 32)) (max W (wds (A + 32))) rt rd la w') _ (fun _ _ => True) w (by decide) c1 c9 c11 hS.sl hS.fr hcw hm hl hfc hkG (Nat.lt_of_lt_of_le hG2 (by decide)) ?_ ?_ ?_ family_mstore (by decide) ?_
  · intro w' K1
    have hF := hS.fr.kept K1
    refine refusalD_mstore _ fb 60 m G _ fs0 cv _ _ w' hF.toQ hfc (by simp) (by simp; omega) hkG fun w1 K2 => ?_
    have hF1 := hF.kept K2
    obtain ⟨fs, f1, _, _, f9, _⟩ := hF1.row
    rw [em] at f9
    refine costM_any _ fb 60 82 (3) (A + 32) mem.length W fs mp mc w1 f1 f9 (Nat.lt_of_le_of_lt (Nat.le_trans (Nat.le_add_right _ _) hkG) hG2) hS.len (by omega) (by omega) (fun w2 K3 => ?_) (fun w2 K3 => ?_)
    · have hF2 := (hF1.kept K3).toQ
      exact bareCost_mstore _ _ w2
    · have hF2 := (hF1.kept K3).toQ
      exact reach_mstore fb 60 A (be bs) m G fs0 _ ns w2 hF2 (by omega) (by omega)
  · intro w' K1 hF
    have hF2 := hF.toQ
    exact reach_mstore fb 60 A (be bs) m (G - (3 + growC W (A + 32))) fs0 _ ns w' hF2 (by omega) (by omega)
  · intro w' r K1 hF hr
    exact grow_S (A + 32) r (hS.frame K1 hF) hr (by omega) hrr2
  · rintro w' K1 ⟨S', mv', hS2⟩
    have hge := growB_ge (U := A + 32) hS.len
    have h0 : 0 < (growB mem (A + 32)).length := by omega
    have hlen : (wrB (growB mem (A + 32)) A bs).length = (growB mem (A + 32)).length := wrB_length (by omega)
    have hsml : Small (wrB (growB mem (A + 32)) A bs) := wrB_small (growB_small hS.sm _) hs
    obtain ⟨mb, rfl, hmb, rfl, hBm⟩ := hS2.memRow h0
    refine (plainM_mstore [mb] rr 0 _ fb 60 m (G - (3 + growC W (A + 32))) A (be bs) 0 0 0 fs0 _ ns w' hS2.sl hS2.fr (by omega) (by omega) [mb] (fun w1 => w1.heap[mb]? = some (R8 5 (wrB (growB mem (A + 32)) A bs))) (soft_mem hmb (by decide) (by simp)) hrr fun w1 a b ab args K2 e1 e2 e3 e4 e5 => ?_).mono ?_
    · have hF1 := hS2.fr.kept K2
      have hS3 := hS2.kept K2
      obtain ⟨fs, f1, _, f2, f9, _⟩ := hF1.row
      exact effectM_mstore _ a b fb 60 mb ab A _ fs args (growB mem (A + 32)) bs w1 f1 f9 (K2.row hmb (by simp)) rfl e1 e2 e3 e4 e5 hb hs (growB_ge hS.len) (by rw [growB_length hS.len]; unfold wds; omega)
    · rintro e w'' ⟨r, w1, rfl, p1, p2, p3, p4⟩
      exact ⟨r, rfl, [mb], _, hS2.write hmb rfl rfl hBm h0 p2 p1 hlen hsml p3 p4⟩
theorem stepX_calldatacopy1 {wB : World} {c fbB : Nat} {E : CEnv} {rr fb cap : Nat} {fs0 : Array Value} {m G : Nat} {ns : List Nat} {mem : List Nat} {W : Nat} {rt : Value} {rd : List Nat} {la : List (List Nat)} {w : World} {cv : Value} {ds : List Nat} (N O D : Nat) (iu : Value) (dd : List Nat) (hE : StE wB c fbB E rr fb 0 1 cap fs0 m G (ns ++ [N, O, D]) mem W rt rd la w) (hH : Hard [c, fbB] wB) (hcv : NatV wB cv ds) (hfc : FrD fs0 0 cv) (hm : ds[m]? = some 55) (hl : ds.length ≤ 1000) (hns : ns.length ≤ 20) (hm1 : m ≤ 900) (hkG : (3 + 3 * wds N + growC W (endN D N)) ≤ G) (hG : G ≤ 1000000) (hrr : ns.length ≤ rr) (hrr2 : rr ≤ (ns ++ [N, O, D]).length) (hD : D ≤ 300) (hN : N ≤ 300) (hiu : NatV wB iu dd) (h11 : fs0[0 + 11]? = some iu) (hdl : dd.length ≤ 1000) :
    Calls Salg.prog 27 #[.pointer (some ⟨c, 0, none⟩)] w fun e w' => e = .returned (.bool true) ∧ StE wB c fbB E ns.length fb 0 1 cap fs0 (m + 1) (G - (3 + 3 * wds N + growC W (endN D N))) ns (wrB (growB mem (endN D N)) D (cutB dd O N)) (max W (wds (endN D N))) rt rd la w' := by
  obtain ⟨S, mv, hS⟩ := hE
  obtain ⟨cs, c1, c9, c10, c11, cn⟩ := hS.ch.row
  obtain ⟨mp, mc, em⟩ := hS.mm.cell
  have hG2 : G < 256 ^ 100 := Nat.lt_of_le_of_lt hG (by decide)
  have hcw := hcv.keptN hS.k hH
  have hwle := hS.wle
  have hUb : endN D N ≤ 640 := (by have := endN_le D N; omega)
  refine stepM_plain1 S rr c fb m G (3 + 3 * wds N + growC W (endN D N)) (endN D N) 2 0 0 0 55 cs fs0 cap _ cv mv ds (fun w' => StE wB c fbB E rr fb 0 1 cap fs0 m (G - (3 + 3 * wds N + growC W (endN D N))) (ns ++ [N, O, D]) (growB mem (endN D N)) (max W (wds (endN D N))) rt rd la w') _ (fun _ _ => True) w (by decide) c1 c9 c11 hS.sl hS.fr hcw hm hl hfc hkG (Nat.lt_of_lt_of_le hG2 (by decide)) ?_ ?_ ?_ family_calldatacopy (by decide) ?_
  · intro w' K1
    have hF := hS.fr.kept K1
    refine refusalD_calldatacopy _ fb 0 m G _ fs0 cv _ _ w' hF.toQ hfc (by simp) (by simp; omega) hkG fun w1 K2 => ?_
    have hF1 := hF.kept K2
    obtain ⟨fs, f1, _, _, f9, _⟩ := hF1.row
    rw [em] at f9
    refine costM_any _ fb 0 55 (3 + 3 * wds N) (endN D N) mem.length W fs mp mc w1 f1 f9 (Nat.lt_of_le_of_lt (Nat.le_trans (Nat.le_add_right _ _) hkG) hG2) hS.len (by omega) (by omega) (fun w2 K3 => ?_) (fun w2 K3 => ?_)
    · have hF2 := (hF1.kept K3).toQ
      exact bareCost_calldatacopy _ N O D fb 0 m G fs0 _ ns w2 hF2 (by omega) (by omega)
    · have hF2 := (hF1.kept K3).toQ
      exact reach_calldatacopy N O D fb 0 m G fs0 _ ns w2 hF2 (by omega) (by omega) (by omega)
  · intro w' K1 hF
    have hF2 := hF.toQ
    exact reach_calldatacopy N O D fb 0 m (G - (3 + 3 * wds N + growC W (endN D N))) fs0 _ ns w' hF2 (by omega) (by omega) (by omega)
  · intro w' r K1 hF hr
    exact grow_S (endN D N) r (hS.frame K1 hF) hr (by omega) hrr2
  · rintro w' K1 ⟨S', mv', hS2⟩
    have hge := growB_ge (U := endN D N) hS.len
    have hsl2 : Small dd := hiu.small
    have hsml : Small (wrB (growB mem (endN D N)) D (cutB dd O N)) := wrB_small (growB_small hS.sm _) (cutB_small hsl2 _ _)
    by_cases hN0 : N = 0
    · subst hN0
      refine (plainM_calldatacopy S' rr 0 _ fb 0 m (G - (3 + 3 * wds 0 + growC W (endN D 0))) D O 0 0 0 fs0 _ ns w' hS2.sl hS2.fr (by omega) (by omega) [] (fun _ => True) (soft_nil _ _) hrr fun w1 a b n ab args K2 e1 e2 e3 e4 e5 e6 e7 => ?_).mono ?_
      · have hF1 := hS2.fr.kept K2
        have hS3 := hS2.kept K2
        obtain ⟨fs, f1, _, f2, f9, _⟩ := hF1.row
        exact ((effectM_calldatacopy_zero _ a b n iu 0 fb 0 0 ab D O 0 0 #[] fs args [] dd w1 f1 ((f2 (0 + 11) (by omega) (by omega) (by omega) (by omega)).trans h11) (hiu.keptN hS3.k hH) e1 e2 e3 e4 e5 e6 e7)).mono fun _ _ ⟨x1, x2⟩ => ⟨x1, trivial, x2⟩
      · rintro e w'' ⟨r, w1, rfl, _, p2, p3, p4⟩
        rw [cutB_zero, wrB_nil]
        exact ⟨r, rfl, S', mv', (hS2.kept p2).frame p3 p4⟩
    · have hU2 : D + N ≤ (growB mem (endN D N)).length := (by have : endN D N = D + N := (by unfold endN; rw [if_neg hN0]); omega)
      have h0 : 0 < (growB mem (endN D N)).length := by omega
      have hlen : (wrB (growB mem (endN D N)) D (cutB dd O N)).length = (growB mem (endN D N)).length := wrB_length (by rw [cutB_length]; exact hU2)
      have hgl := growB_length (U := endN D N) hS.len
      obtain ⟨mb, rfl, hmb, rfl, hBm⟩ := hS2.memRow h0
      refine (plainM_calldatacopy [mb] rr 0 _ fb 0 m (G - (3 + 3 * wds N + growC W (endN D N))) D O N 0 0 fs0 _ ns w' hS2.sl hS2.fr (by omega) (by omega) [mb] (fun w1 => w1.heap[mb]? = some (R8 5 (wrB (growB mem (endN D N)) D (cutB dd O N)))) (soft_mem hmb (by decide) (by simp)) hrr fun w1 a b n ab args K2 e1 e2 e3 e4 e5 e6 e7 => ?_).mono ?_
      · have hF1 := hS2.fr.kept K2
        have hS3 := hS2.kept K2
        obtain ⟨fs, f1, _, f2, f9, _⟩ := hF1.row
        exact effectM_calldatacopy _ a b n iu 0 fb 0 mb ab D O N _ #[] fs args (growB mem (endN D N)) dd w1 f1 f9 (K2.row hmb (by simp)) rfl ((f2 (0 + 11) (by omega) (by omega) (by omega) (by omega)).trans h11) (hiu.keptN hS3.k hH) e1 e2 e3 e4 e5 e6 e7 (by omega) hdl (.inr hU2) (by rw [hgl]; unfold wds; omega)
      · rintro e w'' ⟨r, w1, rfl, p1, p2, p3, p4⟩
        exact ⟨r, rfl, [mb], _, hS2.write hmb rfl rfl hBm h0 p2 p1 hlen hsml p3 p4⟩
theorem stepX_calldatacopy2 {wB : World} {c fbB : Nat} {E : CEnv} {rr fb cap : Nat} {fs0 : Array Value} {m G : Nat} {ns : List Nat} {mem : List Nat} {W : Nat} {rt : Value} {rd : List Nat} {la : List (List Nat)} {w : World} {cv : Value} {ds : List Nat} (N O D : Nat) (iu : Value) (dd : List Nat) (hE : StE wB c fbB E rr fb 60 2 cap fs0 m G (ns ++ [N, O, D]) mem W rt rd la w) (hH : Hard [c, fbB] wB) (hcv : NatV wB cv ds) (hfc : FrD fs0 60 cv) (hm : ds[m]? = some 55) (hl : ds.length ≤ 1000) (hns : ns.length ≤ 20) (hm1 : m ≤ 900) (hkG : (3 + 3 * wds N + growC W (endN D N)) ≤ G) (hG : G ≤ 1000000) (hrr : ns.length ≤ rr) (hrr2 : rr ≤ (ns ++ [N, O, D]).length) (hD : D ≤ 300) (hN : N ≤ 300) (hiu : NatV wB iu dd) (h11 : fs0[60 + 11]? = some iu) (hdl : dd.length ≤ 1000) :
    Calls Salg.prog 27 #[.pointer (some ⟨c, 0, none⟩)] w fun e w' => e = .returned (.bool true) ∧ StE wB c fbB E ns.length fb 60 2 cap fs0 (m + 1) (G - (3 + 3 * wds N + growC W (endN D N))) ns (wrB (growB mem (endN D N)) D (cutB dd O N)) (max W (wds (endN D N))) rt rd la w' := by
  obtain ⟨S, mv, hS⟩ := hE
  obtain ⟨cs, c1, c9, c10, c11, cn⟩ := hS.ch.row
  obtain ⟨mp, mc, em⟩ := hS.mm.cell
  have hG2 : G < 256 ^ 100 := Nat.lt_of_le_of_lt hG (by decide)
  have hcw := hcv.keptN hS.k hH
  have hwle := hS.wle
  have hUb : endN D N ≤ 640 := (by have := endN_le D N; omega)
  refine stepM_plain2 S rr c fb m G (3 + 3 * wds N + growC W (endN D N)) (endN D N) 2 0 0 0 55 cs fs0 cap _ cv mv ds (fun w' => StE wB c fbB E rr fb 60 2 cap fs0 m (G - (3 + 3 * wds N + growC W (endN D N))) (ns ++ [N, O, D]) (growB mem (endN D N)) (max W (wds (endN D N))) rt rd la w') _ (fun _ _ => True) w (by decide) c1 c9 c11 hS.sl hS.fr hcw hm hl hfc hkG (Nat.lt_of_lt_of_le hG2 (by decide)) ?_ ?_ ?_ family_calldatacopy (by decide) ?_
  · intro w' K1
    have hF := hS.fr.kept K1
    refine refusalD_calldatacopy _ fb 60 m G _ fs0 cv _ _ w' hF.toQ hfc (by simp) (by simp; omega) hkG fun w1 K2 => ?_
    have hF1 := hF.kept K2
    obtain ⟨fs, f1, _, _, f9, _⟩ := hF1.row
    rw [em] at f9
    refine costM_any _ fb 60 55 (3 + 3 * wds N) (endN D N) mem.length W fs mp mc w1 f1 f9 (Nat.lt_of_le_of_lt (Nat.le_trans (Nat.le_add_right _ _) hkG) hG2) hS.len (by omega) (by omega) (fun w2 K3 => ?_) (fun w2 K3 => ?_)
    · have hF2 := (hF1.kept K3).toQ
      exact bareCost_calldatacopy _ N O D fb 60 m G fs0 _ ns w2 hF2 (by omega) (by omega)
    · have hF2 := (hF1.kept K3).toQ
      exact reach_calldatacopy N O D fb 60 m G fs0 _ ns w2 hF2 (by omega) (by omega) (by omega)
  · intro w' K1 hF
    have hF2 := hF.toQ
    exact reach_calldatacopy N O D fb 60 m (G - (3 + 3 * wds N + growC W (endN D N))) fs0 _ ns w' hF2 (by omega) (by omega) (by omega)
  · intro w' r K1 hF hr
    exact grow_S (endN D N) r (hS.frame K1 hF) hr (by omega) hrr2
  · rintro w' K1 ⟨S', mv', hS2⟩
    have hge := growB_ge (U := endN D N) hS.len
    have hsl2 : Small dd := hiu.small
    have hsml : Small (wrB (growB mem (endN D N)) D (cutB dd O N)) := wrB_small (growB_small hS.sm _) (cutB_small hsl2 _ _)
    by_cases hN0 : N = 0
    · subst hN0
      refine (plainM_calldatacopy S' rr 0 _ fb 60 m (G - (3 + 3 * wds 0 + growC W (endN D 0))) D O 0 0 0 fs0 _ ns w' hS2.sl hS2.fr (by omega) (by omega) [] (fun _ => True) (soft_nil _ _) hrr fun w1 a b n ab args K2 e1 e2 e3 e4 e5 e6 e7 => ?_).mono ?_
      · have hF1 := hS2.fr.kept K2
        have hS3 := hS2.kept K2
        obtain ⟨fs, f1, _, f2, f9, _⟩ := hF1.row
        exact ((effectM_calldatacopy_zero _ a b n iu 0 fb 60 0 ab D O 0 0 #[] fs args [] dd w1 f1 ((f2 (60 + 11) (by omega) (by omega) (by omega) (by omega)).trans h11) (hiu.keptN hS3.k hH) e1 e2 e3 e4 e5 e6 e7)).mono fun _ _ ⟨x1, x2⟩ => ⟨x1, trivial, x2⟩
      · rintro e w'' ⟨r, w1, rfl, _, p2, p3, p4⟩
        rw [cutB_zero, wrB_nil]
        exact ⟨r, rfl, S', mv', (hS2.kept p2).frame p3 p4⟩
    · have hU2 : D + N ≤ (growB mem (endN D N)).length := (by have : endN D N = D + N := (by unfold endN; rw [if_neg hN0]); omega)
      have h0 : 0 < (growB mem (endN D N)).length := by omega
      have hlen : (wrB (growB mem (endN D N)) D (cutB dd O N)).length = (growB mem (endN D N)).length := wrB_length (by rw [cutB_length]; exact hU2)
      have hgl := growB_length (U := endN D N) hS.len
      obtain ⟨mb, rfl, hmb, rfl, hBm⟩ := hS2.memRow h0
      refine (plainM_calldatacopy [mb] rr 0 _ fb 60 m (G - (3 + 3 * wds N + growC W (endN D N))) D O N 0 0 fs0 _ ns w' hS2.sl hS2.fr (by omega) (by omega) [mb] (fun w1 => w1.heap[mb]? = some (R8 5 (wrB (growB mem (endN D N)) D (cutB dd O N)))) (soft_mem hmb (by decide) (by simp)) hrr fun w1 a b n ab args K2 e1 e2 e3 e4 e5 e6 e7 => ?_).mono ?_
      · have hF1 := hS2.fr.kept K2
        have hS3 := hS2.kept K2
        obtain ⟨fs, f1, _, f2, f9, _⟩ := hF1.row
        exact effectM_calldatacopy _ a b n iu 0 fb 60 mb ab D O N _ #[] fs args (growB mem (endN D N)) dd w1 f1 f9 (K2.row hmb (by simp)) rfl ((f2 (60 + 11) (by omega) (by omega) (by omega) (by omega)).trans h11) (hiu.keptN hS3.k hH) e1 e2 e3 e4 e5 e6 e7 (by omega) hdl (.inr hU2) (by rw [hgl]; unfold wds; omega)
      · rintro e w'' ⟨r, w1, rfl, p1, p2, p3, p4⟩
        exact ⟨r, rfl, [mb], _, hS2.write hmb rfl rfl hBm h0 p2 p1 hlen hsml p3 p4⟩
theorem stepX_codecopy1 {wB : World} {c fbB : Nat} {E : CEnv} {rr fb cap : Nat} {fs0 : Array Value} {m G : Nat} {ns : List Nat} {mem : List Nat} {W : Nat} {rt : Value} {rd : List Nat} {la : List (List Nat)} {w : World} {cv : Value} {ds : List Nat} (N O D : Nat) (hE : StE wB c fbB E rr fb 0 1 cap fs0 m G (ns ++ [N, O, D]) mem W rt rd la w) (hH : Hard [c, fbB] wB) (hcv : NatV wB cv ds) (hfc : FrD fs0 0 cv) (hm : ds[m]? = some 57) (hl : ds.length ≤ 1000) (hns : ns.length ≤ 20) (hm1 : m ≤ 900) (hkG : (3 + 3 * wds N + growC W (endN D N)) ≤ G) (hG : G ≤ 1000000) (hrr : ns.length ≤ rr) (hrr2 : rr ≤ (ns ++ [N, O, D]).length) (hD : D ≤ 300) (hN : N ≤ 300) :
    Calls Salg.prog 27 #[.pointer (some ⟨c, 0, none⟩)] w fun e w' => e = .returned (.bool true) ∧ StE wB c fbB E ns.length fb 0 1 cap fs0 (m + 1) (G - (3 + 3 * wds N + growC W (endN D N))) ns (wrB (growB mem (endN D N)) D (cutB ds O N)) (max W (wds (endN D N))) rt rd la w' := by
  obtain ⟨S, mv, hS⟩ := hE
  obtain ⟨cs, c1, c9, c10, c11, cn⟩ := hS.ch.row
  obtain ⟨mp, mc, em⟩ := hS.mm.cell
  have hG2 : G < 256 ^ 100 := Nat.lt_of_le_of_lt hG (by decide)
  have hcw := hcv.keptN hS.k hH
  have hwle := hS.wle
  have hUb : endN D N ≤ 640 := (by have := endN_le D N; omega)
  refine stepM_plain1 S rr c fb m G (3 + 3 * wds N + growC W (endN D N)) (endN D N) 2 0 0 0 57 cs fs0 cap _ cv mv ds (fun w' => StE wB c fbB E rr fb 0 1 cap fs0 m (G - (3 + 3 * wds N + growC W (endN D N))) (ns ++ [N, O, D]) (growB mem (endN D N)) (max W (wds (endN D N))) rt rd la w') _ (fun _ _ => True) w (by decide) c1 c9 c11 hS.sl hS.fr hcw hm hl hfc hkG (Nat.lt_of_lt_of_le hG2 (by decide)) ?_ ?_ ?_ family_codecopy (by decide) ?_
  · intro w' K1
    have hF := hS.fr.kept K1
    refine refusalD_codecopy _ fb 0 m G _ fs0 cv _ _ w' hF.toQ hfc (by simp) (by simp; omega) hkG fun w1 K2 => ?_
    have hF1 := hF.kept K2
    obtain ⟨fs, f1, _, _, f9, _⟩ := hF1.row
    rw [em] at f9
    refine costM_any _ fb 0 57 (3 + 3 * wds N) (endN D N) mem.length W fs mp mc w1 f1 f9 (Nat.lt_of_le_of_lt (Nat.le_trans (Nat.le_add_right _ _) hkG) hG2) hS.len (by omega) (by omega) (fun w2 K3 => ?_) (fun w2 K3 => ?_)
    · have hF2 := (hF1.kept K3).toQ
      exact bareCost_codecopy _ N O D fb 0 m G fs0 _ ns w2 hF2 (by omega) (by omega)
    · have hF2 := (hF1.kept K3).toQ
      exact reach_codecopy N O D fb 0 m G fs0 _ ns w2 hF2 (by omega) (by omega) (by omega)
  · intro w' K1 hF
    have hF2 := hF.toQ
    exact reach_codecopy N O D fb 0 m (G - (3 + 3 * wds N + growC W (endN D N))) fs0 _ ns w' hF2 (by omega) (by omega) (by omega)
  · intro w' r K1 hF hr
    exact grow_S (endN D N) r (hS.frame K1 hF) hr (by omega) hrr2
  · rintro w' K1 ⟨S', mv', hS2⟩
    have hge := growB_ge (U := endN D N) hS.len
    have hsl2 : Small ds := hcv.small
    have hsml : Small (wrB (growB mem (endN D N)) D (cutB ds O N)) := wrB_small (growB_small hS.sm _) (cutB_small hsl2 _ _)
    by_cases hN0 : N = 0
    · subst hN0
      refine (plainM_codecopy S' rr 0 _ fb 0 m (G - (3 + 3 * wds 0 + growC W (endN D 0))) D O 0 0 0 fs0 _ ns w' hS2.sl hS2.fr (by omega) (by omega) [] (fun _ => True) (soft_nil _ _) hrr fun w1 a b n ab args K2 e1 e2 e3 e4 e5 e6 e7 => ?_).mono ?_
      · have hF1 := hS2.fr.kept K2
        have hS3 := hS2.kept K2
        obtain ⟨fs, f1, _, f2, f9, _⟩ := hF1.row
        exact ((effectM_codecopy_zero _ a b n cv 0 fb 0 0 ab D O 0 0 #[] fs args [] ds w1 f1 ((f2 (0 + 10) (by omega) (by omega) (by omega) (by omega)).trans hfc.f10) (hcv.keptN hS3.k hH) e1 e2 e3 e4 e5 e6 e7)).mono fun _ _ ⟨x1, x2⟩ => ⟨x1, trivial, x2⟩
      · rintro e w'' ⟨r, w1, rfl, _, p2, p3, p4⟩
        rw [cutB_zero, wrB_nil]
        exact ⟨r, rfl, S', mv', (hS2.kept p2).frame p3 p4⟩
    · have hU2 : D + N ≤ (growB mem (endN D N)).length := (by have : endN D N = D + N := (by unfold endN; rw [if_neg hN0]); omega)
      have h0 : 0 < (growB mem (endN D N)).length := by omega
      have hlen : (wrB (growB mem (endN D N)) D (cutB ds O N)).length = (growB mem (endN D N)).length := wrB_length (by rw [cutB_length]; exact hU2)
      have hgl := growB_length (U := endN D N) hS.len
      obtain ⟨mb, rfl, hmb, rfl, hBm⟩ := hS2.memRow h0
      refine (plainM_codecopy [mb] rr 0 _ fb 0 m (G - (3 + 3 * wds N + growC W (endN D N))) D O N 0 0 fs0 _ ns w' hS2.sl hS2.fr (by omega) (by omega) [mb] (fun w1 => w1.heap[mb]? = some (R8 5 (wrB (growB mem (endN D N)) D (cutB ds O N)))) (soft_mem hmb (by decide) (by simp)) hrr fun w1 a b n ab args K2 e1 e2 e3 e4 e5 e6 e7 => ?_).mono ?_
      · have hF1 := hS2.fr.kept K2
        have hS3 := hS2.kept K2
        obtain ⟨fs, f1, _, f2, f9, _⟩ := hF1.row
        exact effectM_codecopy _ a b n cv 0 fb 0 mb ab D O N _ #[] fs args (growB mem (endN D N)) ds w1 f1 f9 (K2.row hmb (by simp)) rfl ((f2 (0 + 10) (by omega) (by omega) (by omega) (by omega)).trans hfc.f10) (hcv.keptN hS3.k hH) e1 e2 e3 e4 e5 e6 e7 (by omega) hl (.inr hU2) (by rw [hgl]; unfold wds; omega)
      · rintro e w'' ⟨r, w1, rfl, p1, p2, p3, p4⟩
        exact ⟨r, rfl, [mb], _, hS2.write hmb rfl rfl hBm h0 p2 p1 hlen hsml p3 p4⟩
end Go.Proofs.YgcsalGreat

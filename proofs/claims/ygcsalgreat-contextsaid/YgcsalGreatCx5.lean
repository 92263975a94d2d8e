/-
  The steps of a run of Context: MSTORE, RETURNDATACOPY, POP.
-/
import Derived.Test.YgcsalGreatCx4
import Derived.Test.YgcsalGreatCp7
import Derived.Test.YgcsalGreatCp14
set_option linter.unusedSimpArgs false
set_option linter.unusedVariables false
namespace Go.Own
section
variable {wB : World} {c fbB : Nat} {E : XEnv} {S : List Nat} {rr fb q n cap : Nat} {fs0 : Array Value} {m G : Nat} {ns : List Nat} {mv : Value} {mem : List Nat} {W : Nat} {rt : Value} {rd : List Nat} {la : List (List Nat)} {w w' w1 : World}
/-- The memory was written, then the frame's row. -/
theorem StY.write {rr' m' G' mb : Nat} {ns' mem' : List Nat} (h : StY wB c fbB E S rr fb q n cap fs0 m G ns mv mem W rt rd la w) (hmb : w.heap[mb]? = some (R8 5 mem)) (hmv : mv = .slice (some ⟨mb, 0, none⟩) mem.length mem.length) (hS : S = [mb]) (hB : wB.heap.size ≤ mb) (h0 : 0 < mem.length) (K1 : Kept [mb] w w1) (hr1 : w1.heap[mb]? = some (R8 5 mem')) (hl : mem'.length = mem.length) (hs : Small mem') (K2 : Kept [fb] w1 w') (hF : FrameM S rr' w' fb q fs0 m' G' ns' mv) : StY wB c fbB E S rr' fb q n cap fs0 m' G' ns' mv mem' W rt rd la w' := by
  obtain ⟨fs, f1, _, _, _, fn⟩ := h.fr.row
  have hso : Soft S [mb] w := soft_mem hmb (by decide) (by rw [hS]; simp)
  have f2 : w1.heap[fb]? = some (.cells fs 142 (0, 0)) := hso.row K1 f1 (.inl rfl)
  have k1 : Kept [c, fbB] wB w1 := h.k.since K1 (.inr hB)
  refine ⟨k1.since K2 h.b, h.b, (h.ch.bytes K1 hmb (by decide)).frame K2 f2, hF, .inr ⟨mb, by rw [hmv, hl], K2.row hr1 (row_ne f2 hr1 (fun e => fn _ _ e.symm)), hS, hB, by omega⟩, hs, by rw [hl]; exact h.len, h.wle, (h.rt.keptB K1 (by rw [hS]; simp)).keptC K2 f2 fn, fun b hb => Nat.lt_of_lt_of_le (h.sl b hb) (Nat.le_trans K1.size K2.size)⟩
theorem StY.memRow (h : StY wB c fbB E S rr fb q n cap fs0 m G ns mv mem W rt rd la w) (h0 : 0 < mem.length) : ∃ mb, mv = .slice (some ⟨mb, 0, none⟩) mem.length mem.length ∧ w.heap[mb]? = some (R8 5 mem) ∧ S = [mb] ∧ wB.heap.size ≤ mb := by
  rcases h.mm with ⟨h1, _⟩ | ⟨mb, h1, h2, h3, h4, _⟩
  · rw [h1] at h0
    simp at h0
  · exact ⟨mb, h1, h2, h3, h4⟩
end
end Go.Own
namespace Go.Proofs.YgcsalGreat
open Go.RowKit Go.Own
/-- grow on the state. -/
theorem grow_Y {wB : World} {c fbB : Nat} {E : XEnv} {S : List Nat} {rr fb q n cap : Nat} {fs0 : Array Value} {m G : Nat} {ns : List Nat} {mv : Value} {mem : List Nat} {W : Nat} {rt : Value} {rd : List Nat} {la : List (List Nat)} {w : World} (U : Nat) (u : Value) (h : StY wB c fbB E S rr fb q n cap fs0 m G ns mv mem W rt rd la w) (hu : NumV w u U) (hU : U ≤ 640) (hrr : rr ≤ ns.length) :
    Calls Salg.prog 113 #[.pointer (some ⟨fb, q, none⟩), u] w fun e w' => ∃ r', e = .returned r' ∧ StF wB c fbB E rr fb q n cap fs0 m G ns (growB mem U) (max W (wds U)) rt rd la w' ∧ Kept [fb] w w' := by
  have hw := h.wle
  obtain ⟨fs, f1, _, _, _, fn⟩ := h.fr.row
  refine (growM_any wB S rr fb q m G U W fs0 ns mem mv u w h.k.size h.fr h.mm h.sl hu (by omega) h.len (by omega) hrr).mono ?_
  rintro e w' ⟨r, mv', S', rfl, e1, e2, e3, e4, K⟩
  have hwd : wds U ≤ 20 := by unfold wds; omega
  refine ⟨r, rfl, ⟨S', mv', h.k.since K h.b, h.b, h.ch.frame K f1, e1, e2, growB_small h.sm U, growB_length h.len, by omega, e3 _ _ h.rt, ?_⟩, K⟩
  exact e4
theorem stepY_mstore1 {wB : World} {c fbB : Nat} {E : XEnv} {rr fb cap : Nat} {fs0 : Array Value} {m G : Nat} {ns : List Nat} {mem : List Nat} {W : Nat} {rt : Value} {rd : List Nat} {la : List (List Nat)} {w : World} {cv : Value} {ds : List Nat} {sb : Bool} (A : Nat) (bs : List Nat) (hE : StF wB c fbB E rr fb 0 1 cap fs0 m G (ns ++ [be bs, A]) mem W rt rd la w) (hH : Hard [c, fbB] wB) (hcv : NatV wB cv ds) (hfc : FrB fs0 0 sb cv) (hm : ds[m]? = some 82) (hl : ds.length ≤ 1000) (hns : ns.length ≤ 20) (hm1 : m ≤ 900) (hkG : (3 + growC W (A + 32)) ≤ G) (hG : G ≤ 1000000) (hrr : ns.length ≤ rr) (hrr2 : rr ≤ (ns ++ [be bs, A]).length) (hb : bs.length = 32) (hs : Small bs) (hA : A ≤ 600) :
    Calls Salg.prog 27 #[.pointer (some ⟨c, 0, none⟩)] w fun e w' => e = .returned (.bool true) ∧ StF wB c fbB E ns.length fb 0 1 cap fs0 (m + 1) (G - (3 + growC W (A + 32))) ns (wrB (growB mem (A + 32)) A bs) (max W (wds (A + 32))) rt rd la w' := by
  obtain ⟨S, mv, hS⟩ := hE
  obtain ⟨cs, c1, c9, c10, c11, cn⟩ := hS.ch.row
  obtain ⟨mp, mc, em⟩ := hS.mm.cell
  have hG2 : G < 256 ^ 100 := Nat.lt_of_le_of_lt hG (by decide)
  have hcw := hcv.keptN hS.k hH
  have hwle := hS.wle
  refine stepB_plain1 S rr c fb m G (3 + growC W (A + 32)) (A + 32) 2 0 0 0 82 cs fs0 cap _ cv mv ds (fun w' => StF wB c fbB E rr fb 0 1 cap fs0 m (G - (3 + growC W (A + 32))) (ns ++ [be bs, A]) (growB mem (A + 32)) (max W (wds (A + 32))) rt rd la w') _ (fun _ _ => True) w (by decide) c1 c9 c11 hS.sl hS.fr hcw hm hl sb hfc hkG (Nat.lt_of_lt_of_le hG2 (by decide)) ?_ ?_ ?_ family_mstore (by decide) ?_
  · intro w' K1
    have hF := hS.fr.kept K1
    refine refusalB_mstore _ fb 0 m G _ fs0 cv _ _ w' hF.toQ sb hfc (by simp) (by simp; omega) hkG fun w1 K2 => ?_
    have hF1 := hF.kept K2
    obtain ⟨fs, f1, _, _, f9, _⟩ := hF1.row
    rw [em] at f9
    refine costM_any _ fb 0 82 (3) (A + 32) mem.length W fs mp mc w1 f1 f9 (Nat.lt_of_le_of_lt (Nat.le_trans (Nat.le_add_right _ _) hkG) hG2) hS.len (by omega) (by omega) (fun w2 K3 => ?_) (fun w2 K3 => ?_)
    · have hF2 := (hF1.kept K3).toQ
      exact bareCost_mstore _ _ w2
    · have hF2 := (hF1.kept K3).toQ
      exact reach_mstore fb 0 A (be bs) m G fs0 _ ns w2 hF2 (by omega) (by omega)
  · intro w' K1 hF
    have hF2 := hF.toQ
    exact reach_mstore fb 0 A (be bs) m (G - (3 + growC W (A + 32))) fs0 _ ns w' hF2 (by omega) (by omega)
  · intro w' r K1 hF hr
    exact grow_Y (A + 32) r (hS.frame K1 hF) hr (by omega) hrr2
  · rintro w' K1 ⟨S', mv', hS2⟩
    have hge := growB_ge (U := A + 32) hS.len
    have h0 : 0 < (growB mem (A + 32)).length := by omega
    have hlen : (wrB (growB mem (A + 32)) A bs).length = (growB mem (A + 32)).length := wrB_length (by omega)
    have hsml : Small (wrB (growB mem (A + 32)) A bs) := wrB_small (growB_small hS.sm _) hs
    obtain ⟨mb, rfl, hmb, rfl, hBm⟩ := hS2.memRow h0
    refine (plainM_mstore [mb] rr 0 _ fb 0 m (G - (3 + growC W (A + 32))) A (be bs) 0 0 0 fs0 _ ns w' hS2.sl hS2.fr (by omega) (by omega) [mb] (fun w1 => w1.heap[mb]? = some (R8 5 (wrB (growB mem (A + 32)) A bs))) (soft_mem hmb (by decide) (by simp)) hrr fun w1 a b ab args K2 e1 e2 e3 e4 e5 => ?_).mono ?_
    · have hF1 := hS2.fr.kept K2
      have hS3 := hS2.kept K2
      obtain ⟨fs, f1, _, f2, f9, _⟩ := hF1.row
      exact effectM_mstore _ a b fb 0 mb ab A _ fs args (growB mem (A + 32)) bs w1 f1 f9 (K2.row hmb (by simp)) rfl e1 e2 e3 e4 e5 hb hs (growB_ge hS.len) (by rw [growB_length hS.len]; unfold wds; omega)
    · rintro e w'' ⟨r, w1, rfl, p1, p2, p3, p4⟩
      exact ⟨r, rfl, [mb], _, hS2.write hmb rfl rfl hBm h0 p2 p1 hlen hsml p3 p4⟩
theorem stepY_mstore2 {wB : World} {c fbB : Nat} {E : XEnv} {rr fb cap : Nat} {fs0 : Array Value} {m G : Nat} {ns : List Nat} {mem : List Nat} {W : Nat} {rt : Value} {rd : List Nat} {la : List (List Nat)} {w : World} {cv : Value} {ds : List Nat} {sb : Bool} (A : Nat) (bs : List Nat) (hE : StF wB c fbB E rr fb 60 2 cap fs0 m G (ns ++ [be bs, A]) mem W rt rd la w) (hH : Hard [c, fbB] wB) (hcv : NatV wB cv ds) (hfc : FrB fs0 60 sb cv) (hm : ds[m]? = some 82) (hl : ds.length ≤ 1000) (hns : ns.length ≤ 20) (hm1 : m ≤ 900) (hkG : (3 + growC W (A + 32)) ≤ G) (hG : G ≤ 1000000) (hrr : ns.length ≤ rr) (hrr2 : rr ≤ (ns ++ [be bs, A]).length) (hb : bs.length = 32) (hs : Small bs) (hA : A ≤ 600) :
    Calls Salg.prog 27 #[.pointer (some ⟨c, 0, none⟩)] w fun e w' => e = .returned (.bool true) ∧ StF wB c fbB E ns.length fb 60 2 cap fs0 (m + 1) (G - (3 + growC W (A + 32))) ns (wrB (growB mem (A + 32)) A bs) (max W (wds (A + 32))) rt rd la w' := by
  obtain ⟨S, mv, hS⟩ := hE
  obtain ⟨cs, c1, c9, c10, c11, cn⟩ := hS.ch.row
  obtain ⟨mp, mc, em⟩ := hS.mm.cell
  have hG2 : G < 256 ^ 100 := Nat.lt_of_le_of_lt hG (by decide)
  have hcw := hcv.keptN hS.k hH
  have hwle := hS.wle
  refine stepB_plain2 S rr c fb m G (3 + growC W (A + 32)) (A + 32) 2 0 0 0 82 cs fs0 cap _ cv mv ds (fun w' => StF wB c fbB E rr fb 60 2 cap fs0 m (G - (3 + growC W (A + 32))) (ns ++ [be bs, A]) (growB mem (A + 32)) (max W (wds (A + 32))) rt rd la w') _ (fun _ _ => True) w (by decide) c1 c9 c11 hS.sl hS.fr hcw hm hl sb hfc hkG (Nat.lt_of_lt_of_le hG2 (by decide)) ?_ ?_ ?_ family_mstore (by decide) ?_
  · intro w' K1
    have hF := hS.fr.kept K1
    refine refusalB_mstore _ fb 60 m G _ fs0 cv _ _ w' hF.toQ sb hfc (by simp) (by simp; omega) hkG fun w1 K2 => ?_
    have hF1 := hF.kept K2
    obtain ⟨fs, f1, _, _, f9, _⟩ := hF1.row
    rw [em] at f9
    refine costM_any _ fb 60 82 (3) (A + 32) mem.length W fs mp mc w1 f1 f9 (Nat.lt_of_le_of_lt (Nat.le_trans (Nat.le_add_right _ _) hkG) hG2) hS.len (by omega) (by omega) (fun w2 K3 => ?_) (fun w2 K3 => ?_)
    · have hF2 := (hF1.kept K3).toQ
      exact bareCost_mstore _ _ w2
    · have hF2 := (hF1.kept K3).toQ
      exact reach_mstore fb 60 A (be bs) m G fs0 _ ns w2 hF2 (by omega) (by omega)
  · intro w' K1 hF
    have hF2 := hF.toQ
    exact reach_mstore fb 60 A (be bs) m (G - (3 + growC W (A + 32))) fs0 _ ns w' hF2 (by omega) (by omega)
  · intro w' r K1 hF hr
    exact grow_Y (A + 32) r (hS.frame K1 hF) hr (by omega) hrr2
  · rintro w' K1 ⟨S', mv', hS2⟩
    have hge := growB_ge (U := A + 32) hS.len
    have h0 : 0 < (growB mem (A + 32)).length := by omega
    have hlen : (wrB (growB mem (A + 32)) A bs).length = (growB mem (A + 32)).length := wrB_length (by omega)
    have hsml : Small (wrB (growB mem (A + 32)) A bs) := wrB_small (growB_small hS.sm _) hs
    obtain ⟨mb, rfl, hmb, rfl, hBm⟩ := hS2.memRow h0
    refine (plainM_mstore [mb] rr 0 _ fb 60 m (G - (3 + growC W (A + 32))) A (be bs) 0 0 0 fs0 _ ns w' hS2.sl hS2.fr (by omega) (by omega) [mb] (fun w1 => w1.heap[mb]? = some (R8 5 (wrB (growB mem (A + 32)) A bs))) (soft_mem hmb (by decide) (by simp)) hrr fun w1 a b ab args K2 e1 e2 e3 e4 e5 => ?_).mono ?_
    · have hF1 := hS2.fr.kept K2
      have hS3 := hS2.kept K2
      obtain ⟨fs, f1, _, f2, f9, _⟩ := hF1.row
      exact effectM_mstore _ a b fb 60 mb ab A _ fs args (growB mem (A + 32)) bs w1 f1 f9 (K2.row hmb (by simp)) rfl e1 e2 e3 e4 e5 hb hs (growB_ge hS.len) (by rw [growB_length hS.len]; unfold wds; omega)
    · rintro e w'' ⟨r, w1, rfl, p1, p2, p3, p4⟩
      exact ⟨r, rfl, [mb], _, hS2.write hmb rfl rfl hBm h0 p2 p1 hlen hsml p3 p4⟩
theorem stepY_mstore3 {wB : World} {c fbB : Nat} {E : XEnv} {rr fb cap : Nat} {fs0 : Array Value} {m G : Nat} {ns : List Nat} {mem : List Nat} {W : Nat} {rt : Value} {rd : List Nat} {la : List (List Nat)} {w : World} {cv : Value} {ds : List Nat} {sb : Bool} (A : Nat) (bs : List Nat) (hE : StF wB c fbB E rr fb 120 3 cap fs0 m G (ns ++ [be bs, A]) mem W rt rd la w) (hH : Hard [c, fbB] wB) (hcv : NatV wB cv ds) (hfc : FrB fs0 120 sb cv) (hm : ds[m]? = some 82) (hl : ds.length ≤ 1000) (hns : ns.length ≤ 20) (hm1 : m ≤ 900) (hkG : (3 + growC W (A + 32)) ≤ G) (hG : G ≤ 1000000) (hrr : ns.length ≤ rr) (hrr2 : rr ≤ (ns ++ [be bs, A]).length) (hb : bs.length = 32) (hs : Small bs) (hA : A ≤ 600) :
    Calls Salg.prog 27 #[.pointer (some ⟨c, 0, none⟩)] w fun e w' => e = .returned (.bool true) ∧ StF wB c fbB E ns.length fb 120 3 cap fs0 (m + 1) (G - (3 + growC W (A + 32))) ns (wrB (growB mem (A + 32)) A bs) (max W (wds (A + 32))) rt rd la w' := by
  obtain ⟨S, mv, hS⟩ := hE
  obtain ⟨cs, c1, c9, c10, c11, cn⟩ := hS.ch.row
  obtain ⟨mp, mc, em⟩ := hS.mm.cell
  have hG2 : G < 256 ^ 100 := Nat.lt_of_le_of_lt hG (by decide)
  have hcw := hcv.keptN hS.k hH
  have hwle := hS.wle
  refine stepB_plain3 S rr c fb m G (3 + growC W (A + 32)) (A + 32) 2 0 0 0 82 cs fs0 cap _ cv mv ds (fun w' => StF wB c fbB E rr fb 120 3 cap fs0 m (G - (3 + growC W (A + 32))) (ns ++ [be bs, A]) (growB mem (A + 32)) (max W (wds (A + 32))) rt rd la w') _ (fun _ _ => True) w (by decide) c1 c9 c11 hS.sl hS.fr hcw hm hl sb hfc hkG (Nat.lt_of_lt_of_le hG2 (by decide)) ?_ ?_ ?_ family_mstore (by decide) ?_
  · intro w' K1
    have hF := hS.fr.kept K1
    refine refusalB_mstore _ fb 120 m G _ fs0 cv _ _ w' hF.toQ sb hfc (by simp) (by simp; omega) hkG fun w1 K2 => ?_
    have hF1 := hF.kept K2
    obtain ⟨fs, f1, _, _, f9, _⟩ := hF1.row
    rw [em] at f9
    refine costM_any _ fb 120 82 (3) (A + 32) mem.length W fs mp mc w1 f1 f9 (Nat.lt_of_le_of_lt (Nat.le_trans (Nat.le_add_right _ _) hkG) hG2) hS.len (by omega) (by omega) (fun w2 K3 => ?_) (fun w2 K3 => ?_)
    · have hF2 := (hF1.kept K3).toQ
      exact bareCost_mstore _ _ w2
    · have hF2 := (hF1.kept K3).toQ
      exact reach_mstore fb 120 A (be bs) m G fs0 _ ns w2 hF2 (by omega) (by omega)
  · intro w' K1 hF
    have hF2 := hF.toQ
    exact reach_mstore fb 120 A (be bs) m (G - (3 + growC W (A + 32))) fs0 _ ns w' hF2 (by omega) (by omega)
  · intro w' r K1 hF hr
    exact grow_Y (A + 32) r (hS.frame K1 hF) hr (by omega) hrr2
  · rintro w' K1 ⟨S', mv', hS2⟩
    have hge := growB_ge (U := A + 32) hS.len
    have h0 : 0 < (growB mem (A + 32)).length := by omega
    have hlen : (wrB (growB mem (A + 32)) A bs).length = (growB mem (A + 32)).length := wrB_length (by omega)
    have hsml : Small (wrB (growB mem (A + 32)) A bs) := wrB_small (growB_small hS.sm _) hs
    obtain ⟨mb, rfl, hmb, rfl, hBm⟩ := hS2.memRow h0
    refine (plainM_mstore [mb] rr 0 _ fb 120 m (G - (3 + growC W (A + 32))) A (be bs) 0 0 0 fs0 _ ns w' hS2.sl hS2.fr (by omega) (by omega) [mb] (fun w1 => w1.heap[mb]? = some (R8 5 (wrB (growB mem (A + 32)) A bs))) (soft_mem hmb (by decide) (by simp)) hrr fun w1 a b ab args K2 e1 e2 e3 e4 e5 => ?_).mono ?_
    · have hF1 := hS2.fr.kept K2
      have hS3 := hS2.kept K2
      obtain ⟨fs, f1, _, f2, f9, _⟩ := hF1.row
      exact effectM_mstore _ a b fb 120 mb ab A _ fs args (growB mem (A + 32)) bs w1 f1 f9 (K2.row hmb (by simp)) rfl e1 e2 e3 e4 e5 hb hs (growB_ge hS.len) (by rw [growB_length hS.len]; unfold wds; omega)
    · rintro e w'' ⟨r, w1, rfl, p1, p2, p3, p4⟩
      exact ⟨r, rfl, [mb], _, hS2.write hmb rfl rfl hBm h0 p2 p1 hlen hsml p3 p4⟩
theorem stepY_returndatacopy1 {wB : World} {c fbB : Nat} {E : XEnv} {rr fb cap : Nat} {fs0 : Array Value} {m G : Nat} {ns : List Nat} {mem : List Nat} {W : Nat} {rt : Value} {rd : List Nat} {la : List (List Nat)} {w : World} {cv : Value} {ds : List Nat} {sb : Bool} (N O D : Nat) (hE : StF wB c fbB E rr fb 0 1 cap fs0 m G (ns ++ [N, O, D]) mem W rt rd la w) (hH : Hard [c, fbB] wB) (hcv : NatV wB cv ds) (hfc : FrB fs0 0 sb cv) (hm : ds[m]? = some 62) (hl : ds.length ≤ 1000) (hns : ns.length ≤ 20) (hm1 : m ≤ 900) (hkG : (3 + 3 * wds N + growC W (endN D N)) ≤ G) (hG : G ≤ 1000000) (hrr : ns.length ≤ rr) (hrr2 : rr ≤ (ns ++ [N, O, D]).length) (hD : D ≤ 300) (hN : N ≤ 300) (hN0 : 0 < N) (hb : O + N ≤ rd.length) (hrl : rd.length ≤ 1000) :
    Calls Salg.prog 27 #[.pointer (some ⟨c, 0, none⟩)] w fun e w' => e = .returned (.bool true) ∧ StF wB c fbB E ns.length fb 0 1 cap fs0 (m + 1) (G - (3 + 3 * wds N + growC W (endN D N))) ns (wrB (growB mem (endN D N)) D (cutB rd O N)) (max W (wds (endN D N))) rt rd la w' := by
  obtain ⟨S, mv, hS⟩ := hE
  obtain ⟨cs, c1, c9, c10, c11, cn⟩ := hS.ch.row
  obtain ⟨mp, mc, em⟩ := hS.mm.cell
  have hG2 : G < 256 ^ 100 := Nat.lt_of_le_of_lt hG (by decide)
  have hcw := hcv.keptN hS.k hH
  have hwle := hS.wle
  have hUb : endN D N ≤ 640 := (by have := endN_le D N; omega)
  obtain ⟨rp, rq, ert⟩ : ∃ rp rq, rt = .slice rp rd.length rq := by
    obtain ⟨p, cc, e, _⟩ := hS.rt.1
    exact ⟨p, cc, e⟩
  have c10' := c10
  rw [ert] at c10'
  refine stepB_plain1 S rr c fb m G (3 + 3 * wds N + growC W (endN D N)) (endN D N) 2 0 0 0 62 cs fs0 cap _ cv mv ds (fun w' => StF wB c fbB E rr fb 0 1 cap fs0 m (G - (3 + 3 * wds N + growC W (endN D N))) (ns ++ [N, O, D]) (growB mem (endN D N)) (max W (wds (endN D N))) rt rd la w') _ (fun _ _ => True) w (by decide) c1 c9 c11 hS.sl hS.fr hcw hm hl sb hfc hkG (Nat.lt_of_lt_of_le hG2 (by decide)) ?_ ?_ ?_ family_returndatacopy (by decide) ?_
  · intro w' K1
    have hF := hS.fr.kept K1
    refine refusalB_returndatacopy fb 0 m G _ fs0 cv _ _ w' hF.toQ sb hfc (by simp) (by simp; omega) hkG c cs rp rq rd.length N O D ns rfl (K1.row c1 (by simp)) c10' (by omega) (by omega) (by omega) hb fun w1 K2 => ?_
    have hF1 := hF.kept K2
    obtain ⟨fs, f1, _, _, f9, _⟩ := hF1.row
    rw [em] at f9
    refine costM_any _ fb 0 62 (3 + 3 * wds N) (endN D N) mem.length W fs mp mc w1 f1 f9 (Nat.lt_of_le_of_lt (Nat.le_trans (Nat.le_add_right _ _) hkG) hG2) hS.len (by omega) (by omega) (fun w2 K3 => ?_) (fun w2 K3 => ?_)
    · have hF2 := (hF1.kept K3).toQ
      exact bareCost_returndatacopy _ N O D fb 0 m G fs0 _ ns w2 hF2 (by omega) (by omega)
    · have hF2 := (hF1.kept K3).toQ
      exact reach_returndatacopy N O D fb 0 m G fs0 _ ns w2 hF2 (by omega) (by omega) (by omega)
  · intro w' K1 hF
    have hF2 := hF.toQ
    exact reach_returndatacopy N O D fb 0 m (G - (3 + 3 * wds N + growC W (endN D N))) fs0 _ ns w' hF2 (by omega) (by omega) (by omega)
  · intro w' r K1 hF hr
    exact grow_Y (endN D N) r (hS.frame K1 hF) hr (by omega) hrr2
  · rintro w' K1 ⟨S', mv', hS2⟩
    have hge := growB_ge (U := endN D N) hS.len
    have hgl := growB_length (U := endN D N) hS.len
    have hsl2 : Small rd := hS.rt.1.small
    have hsml : Small (wrB (growB mem (endN D N)) D (cutB rd O N)) := wrB_small (growB_small hS.sm _) (cutB_small hsl2 _ _)
    have hU2 : N = 0 ∨ D + N ≤ (growB mem (endN D N)).length := by
      by_cases hN0 : N = 0
      · exact .inl hN0
      · have : endN D N = D + N := (by unfold endN; rw [if_neg hN0])
        exact .inr (by omega)
    have h0 : 0 < (growB mem (endN D N)).length := by have : endN D N = D + N := (by unfold endN; rw [if_neg (by omega)]); omega
    have hlen : (wrB (growB mem (endN D N)) D (cutB rd O N)).length = (growB mem (endN D N)).length := by
      rcases hU2 with hN0 | hU2
      · rw [hN0, cutB_zero, wrB_nil]
      · exact wrB_length (by rw [cutB_length]; exact hU2)
    obtain ⟨mb, rfl, hmb, rfl, hBm⟩ := hS2.memRow h0
    refine (plainM_returndatacopy [mb] rr 0 _ fb 0 m (G - (3 + 3 * wds N + growC W (endN D N))) D O N 0 0 fs0 _ ns w' hS2.sl hS2.fr (by omega) (by omega) [mb] (fun w1 => w1.heap[mb]? = some (R8 5 (wrB (growB mem (endN D N)) D (cutB rd O N)))) (soft_mem hmb (by decide) (by simp)) hrr fun w1 a b n ab args K2 e1 e2 e3 e4 e5 e6 e7 => ?_).mono ?_
    · have hF1 := hS2.fr.kept K2
      have hS3 := hS2.kept K2
      obtain ⟨fs, f1, _, f2, f9, _⟩ := hF1.row
      obtain ⟨cs3, g1, g9, g10, g11, gn⟩ := hS3.ch.row
      exact effectM_returndatacopy nilS a b n _ c fb 0 mb ab D O N _ cs3 fs args (growB mem (endN D N)) rd w1 f1 f9 (K2.row hmb (by simp)) rfl g1 g10 hS3.rt.1 e1 e2 e3 e4 e5 e6 e7 (by omega) hrl hU2 (by rw [hgl]; unfold wds; omega)
    · rintro e w'' ⟨r, w1, rfl, p1, p2, p3, p4⟩
      exact ⟨r, rfl, [mb], _, hS2.write hmb rfl rfl hBm h0 p2 p1 hlen hsml p3 p4⟩
theorem stepY_returndatacopy2 {wB : World} {c fbB : Nat} {E : XEnv} {rr fb cap : Nat} {fs0 : Array Value} {m G : Nat} {ns : List Nat} {mem : List Nat} {W : Nat} {rt : Value} {rd : List Nat} {la : List (List Nat)} {w : World} {cv : Value} {ds : List Nat} {sb : Bool} (N O D : Nat) (hE : StF wB c fbB E rr fb 60 2 cap fs0 m G (ns ++ [N, O, D]) mem W rt rd la w) (hH : Hard [c, fbB] wB) (hcv : NatV wB cv ds) (hfc : FrB fs0 60 sb cv) (hm : ds[m]? = some 62) (hl : ds.length ≤ 1000) (hns : ns.length ≤ 20) (hm1 : m ≤ 900) (hkG : (3 + 3 * wds N + growC W (endN D N)) ≤ G) (hG : G ≤ 1000000) (hrr : ns.length ≤ rr) (hrr2 : rr ≤ (ns ++ [N, O, D]).length) (hD : D ≤ 300) (hN : N ≤ 300) (hN0 : 0 < N) (hb : O + N ≤ rd.length) (hrl : rd.length ≤ 1000) :
    Calls Salg.prog 27 #[.pointer (some ⟨c, 0, none⟩)] w fun e w' => e = .returned (.bool true) ∧ StF wB c fbB E ns.length fb 60 2 cap fs0 (m + 1) (G - (3 + 3 * wds N + growC W (endN D N))) ns (wrB (growB mem (endN D N)) D (cutB rd O N)) (max W (wds (endN D N))) rt rd la w' := by
  obtain ⟨S, mv, hS⟩ := hE
  obtain ⟨cs, c1, c9, c10, c11, cn⟩ := hS.ch.row
  obtain ⟨mp, mc, em⟩ := hS.mm.cell
  have hG2 : G < 256 ^ 100 := Nat.lt_of_le_of_lt hG (by decide)
  have hcw := hcv.keptN hS.k hH
  have hwle := hS.wle
  have hUb : endN D N ≤ 640 := (by have := endN_le D N; omega)
  obtain ⟨rp, rq, ert⟩ : ∃ rp rq, rt = .slice rp rd.length rq := by
    obtain ⟨p, cc, e, _⟩ := hS.rt.1
    exact ⟨p, cc, e⟩
  have c10' := c10
  rw [ert] at c10'
  refine stepB_plain2 S rr c fb m G (3 + 3 * wds N + growC W (endN D N)) (endN D N) 2 0 0 0 62 cs fs0 cap _ cv mv ds (fun w' => StF wB c fbB E rr fb 60 2 cap fs0 m (G - (3 + 3 * wds N + growC W (endN D N))) (ns ++ [N, O, D]) (growB mem (endN D N)) (max W (wds (endN D N))) rt rd la w') _ (fun _ _ => True) w (by decide) c1 c9 c11 hS.sl hS.fr hcw hm hl sb hfc hkG (Nat.lt_of_lt_of_le hG2 (by decide)) ?_ ?_ ?_ family_returndatacopy (by decide) ?_
  · intro w' K1
    have hF := hS.fr.kept K1
    refine refusalB_returndatacopy fb 60 m G _ fs0 cv _ _ w' hF.toQ sb hfc (by simp) (by simp; omega) hkG c cs rp rq rd.length N O D ns rfl (K1.row c1 (by simp)) c10' (by omega) (by omega) (by omega) hb fun w1 K2 => ?_
    have hF1 := hF.kept K2
    obtain ⟨fs, f1, _, _, f9, _⟩ := hF1.row
    rw [em] at f9
    refine costM_any _ fb 60 62 (3 + 3 * wds N) (endN D N) mem.length W fs mp mc w1 f1 f9 (Nat.lt_of_le_of_lt (Nat.le_trans (Nat.le_add_right _ _) hkG) hG2) hS.len (by omega) (by omega) (fun w2 K3 => ?_) (fun w2 K3 => ?_)
    · have hF2 := (hF1.kept K3).toQ
      exact bareCost_returndatacopy _ N O D fb 60 m G fs0 _ ns w2 hF2 (by omega) (by omega)
    · have hF2 := (hF1.kept K3).toQ
      exact reach_returndatacopy N O D fb 60 m G fs0 _ ns w2 hF2 (by omega) (by omega) (by omega)
  · intro w' K1 hF
    have hF2 := hF.toQ
    exact reach_returndatacopy N O D fb 60 m (G - (3 + 3 * wds N + growC W (endN D N))) fs0 _ ns w' hF2 (by omega) (by omega) (by omega)
  · intro w' r K1 hF hr
    exact grow_Y (endN D N) r (hS.frame K1 hF) hr (by omega) hrr2
  · rintro w' K1 ⟨S', mv', hS2⟩
    have hge := growB_ge (U := endN D N) hS.len
    have hgl := growB_length (U := endN D N) hS.len
    have hsl2 : Small rd := hS.rt.1.small
    have hsml : Small (wrB (growB mem (endN D N)) D (cutB rd O N)) := wrB_small (growB_small hS.sm _) (cutB_small hsl2 _ _)
    have hU2 : N = 0 ∨ D + N ≤ (growB mem (endN D N)).length := by
      by_cases hN0 : N = 0
      · exact .inl hN0
      · have : endN D N = D + N := (by unfold endN; rw [if_neg hN0])
        exact .inr (by omega)
    have h0 : 0 < (growB mem (endN D N)).length := by have : endN D N = D + N := (by unfold endN; rw [if_neg (by omega)]); omega
    have hlen : (wrB (growB mem (endN D N)) D (cutB rd O N)).length = (growB mem (endN D N)).length := by
      rcases hU2 with hN0 | hU2
      · rw [hN0, cutB_zero, wrB_nil]
      · exact wrB_length (by rw [cutB_length]; exact hU2)
    obtain ⟨mb, rfl, hmb, rfl, hBm⟩ := hS2.memRow h0
    refine (plainM_returndatacopy [mb] rr 0 _ fb 60 m (G - (3 + 3 * wds N + growC W (endN D N))) D O N 0 0 fs0 _ ns w' hS2.sl hS2.fr (by omega) (by omega) [mb] (fun w1 => w1.heap[mb]? = some (R8 5 (wrB (growB mem (endN D N)) D (cutB rd O N)))) (soft_mem hmb (by decide) (by simp)) hrr fun w1 a b n ab args K2 e1 e2 e3 e4 e5 e6 e7 => ?_).mono ?_
    · have hF1 := hS2.fr.kept K2
      have hS3 := hS2.kept K2
      obtain ⟨fs, f1, _, f2, f9, _⟩ := hF1.row
      obtain ⟨cs3, g1, g9, g10, g11, gn⟩ := hS3.ch.row
      exact effectM_returndatacopy nilS a b n _ c fb 60 mb ab D O N _ cs3 fs args (growB mem (endN D N)) rd w1 f1 f9 (K2.row hmb (by simp)) rfl g1 g10 hS3.rt.1 e1 e2 e3 e4 e5 e6 e7 (by omega) hrl hU2 (by rw [hgl]; unfold wds; omega)
    · rintro e w'' ⟨r, w1, rfl, p1, p2, p3, p4⟩
      exact ⟨r, rfl, [mb], _, hS2.write hmb rfl rfl hBm h0 p2 p1 hlen hsml p3 p4⟩
theorem stepY_pop1 {wB : World} {c fbB : Nat} {E : XEnv} {rr fb cap : Nat} {fs0 : Array Value} {m G : Nat} {ns : List Nat} {mem : List Nat} {W : Nat} {rt : Value} {rd : List Nat} {la : List (List Nat)} {w : World} {cv : Value} {ds : List Nat} {sb : Bool} (A : Nat) (hE : StF wB c fbB E rr fb 0 1 cap fs0 m G (ns ++ [A]) mem W rt rd la w) (hH : Hard [c, fbB] wB) (hcv : NatV wB cv ds) (hfc : FrB fs0 0 sb cv) (hm : ds[m]? = some 80) (hl : ds.length ≤ 1000) (hns : ns.length ≤ 20) (hm1 : m ≤ 900) (hkG : 2 ≤ G) (hG : G ≤ 1000000) (hrr : ns.length ≤ rr) :
    Calls Salg.prog 27 #[.pointer (some ⟨c, 0, none⟩)] w fun e w' => e = .returned (.bool true) ∧ StF wB c fbB E ns.length fb 0 1 cap fs0 (m + 1) (G - 2) ns mem W rt rd la w' := by
  obtain ⟨S, mv, hS⟩ := hE
  obtain ⟨cs, c1, c9, c10, c11, cn⟩ := hS.ch.row
  obtain ⟨mp, mc, em⟩ := hS.mm.cell
  have hG2 : G < 256 ^ 100 := Nat.lt_of_le_of_lt hG (by decide)
  have hcw := hcv.keptN hS.k hH
  have hwle := hS.wle
  refine stepB_plain1 S rr c fb m G 2 0 2 0 0 0 80 cs fs0 cap _ cv mv ds (fun w' => FrameM S rr w' fb 0 fs0 m (G - 2) (ns ++ [A]) mv) _ (fun _ _ => True) w (by decide) c1 c9 c11 hS.sl hS.fr hcw hm hl sb hfc hkG (Nat.lt_of_lt_of_le hG2 (by decide)) ?_ ?_ ?_ family_pop (by decide) ?_
  · intro w' K1
    have hF := hS.fr.kept K1
    refine refusalB_pop _ fb 0 m G 2 fs0 cv _ _ w' hF.toQ sb hfc (by simp) (by (try simp); omega) hkG fun w1 K2 => ?_
    obtain ⟨fs, f1, _, _, f9, _⟩ := (hF.kept K2).row
    rw [em] at f9
    refine costM_no _ fb 0 80 2 0 mem.length W fs mp mc w1 f1 f9 (by decide) hS.len (by omega) (by decide) (Nat.zero_le _) (fun w2 K3 => ?_) (fun w2 K3 => ?_)
    · exact bareCost_pop _ _ w2
    · refine (reach_pop _ w2).mono ?_
      rintro e w3 ⟨rfl, rfl⟩
      exact ⟨_, rfl, nil_num _, Kept.refl _ _⟩
  · intro w' K1 hF
    refine (reach_pop _ w').mono ?_
    rintro e w3 ⟨rfl, rfl⟩
    exact ⟨_, rfl, nil_num _, Kept.refl _ _⟩
  · intro w' r K1 hF hr
    obtain ⟨fs, f1, _, _, f9, _⟩ := hF.row
    rw [em] at f9
    refine (growM_no fb 0 0 mem.length W fs mp mc r w' f1 f9 hr hS.len (by omega) (by decide) (Nat.zero_le _)).mono ?_
    rintro e w3 ⟨r', rfl, K⟩
    exact ⟨r', rfl, hF.kept K, K.mono (by simp)⟩
  · intro w' K1 hF
    have hS2 := hS.frame K1 hF
    have hcw2 := hcv.keptN hS2.k hH
    refine (plainM_pop S rr 0 _ fb 0 m (G - 2) A 0 0 0 0 fs0 mv ns w' hS2.sl hF (by omega) (by omega) [] (fun _ => True) (soft_nil _ _) hrr fun w1 a ab args K2 e1 e2 e3 => ?_).mono ?_
    · refine (effect_pop _ _ ab 1 args a w1 e1 e2).mono ?_
      rintro e w2 ⟨rfl, rfl⟩
      exact ⟨rfl, trivial, Kept.refl _ _⟩
    · rintro e w'' ⟨r, w1, rfl, _, p2, p3, p4⟩
      exact ⟨r, rfl, S, mv, (hS2.kept p2).frame p3 p4⟩
theorem stepY_pop2 {wB : World} {c fbB : Nat} {E : XEnv} {rr fb cap : Nat} {fs0 : Array Value} {m G : Nat} {ns : List Nat} {mem : List Nat} {W : Nat} {rt : Value} {rd : List Nat} {la : List (List Nat)} {w : World} {cv : Value} {ds : List Nat} {sb : Bool} (A : Nat) (hE : StF wB c fbB E rr fb 60 2 cap fs0 m G (ns ++ [A]) mem W rt rd la w) (hH : Hard [c, fbB] wB) (hcv : NatV wB cv ds) (hfc : FrB fs0 60 sb cv) (hm : ds[m]? = some 80) (hl : ds.length ≤ 1000) (hns : ns.length ≤ 20) (hm1 : m ≤ 900) (hkG : 2 ≤ G) (hG : G ≤ 1000000) (hrr : ns.length ≤ rr) :
    Calls Salg.prog 27 #[.pointer (some ⟨c, 0, none⟩)] w fun e w' => e = .returned (.bool true) ∧ StF wB c fbB E ns.length fb 60 2 cap fs0 (m + 1) (G - 2) ns mem W rt rd la w' := by
  obtain ⟨S, mv, hS⟩ := hE
  obtain ⟨cs, c1, c9, c10, c11, cn⟩ := hS.ch.row
  obtain ⟨mp, mc, em⟩ := hS.mm.cell
  have hG2 : G < 256 ^ 100 := Nat.lt_of_le_of_lt hG (by decide)
  have hcw := hcv.keptN hS.k hH
  have hwle := hS.wle
  refine stepB_plain2 S rr c fb m G 2 0 2 0 0 0 80 cs fs0 cap _ cv mv ds (fun w' => FrameM S rr w' fb 60 fs0 m (G - 2) (ns ++ [A]) mv) _ (fun _ _ => True) w (by decide) c1 c9 c11 hS.sl hS.fr hcw hm hl sb hfc hkG (Nat.lt_of_lt_of_le hG2 (by decide)) ?_ ?_ ?_ family_pop (by decide) ?_
  · intro w' K1
    have hF := hS.fr.kept K1
    refine refusalB_pop _ fb 60 m G 2 fs0 cv _ _ w' hF.toQ sb hfc (by simp) (by (try simp); omega) hkG fun w1 K2 => ?_
    obtain ⟨fs, f1, _, _, f9, _⟩ := (hF.kept K2).row
    rw [em] at f9
    refine costM_no _ fb 60 80 2 0 mem.length W fs mp mc w1 f1 f9 (by decide) hS.len (by omega) (by decide) (Nat.zero_le _) (fun w2 K3 => ?_) (fun w2 K3 => ?_)
    · exact bareCost_pop _ _ w2
    · refine (reach_pop _ w2).mono ?_
      rintro e w3 ⟨rfl, rfl⟩
      exact ⟨_, rfl, nil_num _, Kept.refl _ _⟩
  · intro w' K1 hF
    refine (reach_pop _ w').mono ?_
    rintro e w3 ⟨rfl, rfl⟩
    exact ⟨_, rfl, nil_num _, Kept.refl _ _⟩
  · intro w' r K1 hF hr
    obtain ⟨fs, f1, _, _, f9, _⟩ := hF.row
    rw [em] at f9
    refine (growM_no fb 60 0 mem.length W fs mp mc r w' f1 f9 hr hS.len (by omega) (by decide) (Nat.zero_le _)).mono ?_
    rintro e w3 ⟨r', rfl, K⟩
    exact ⟨r', rfl, hF.kept K, K.mono (by simp)⟩
  · intro w' K1 hF
    have hS2 := hS.frame K1 hF
    have hcw2 := hcv.keptN hS2.k hH
    refine (plainM_pop S rr 0 _ fb 60 m (G - 2) A 0 0 0 0 fs0 mv ns w' hS2.sl hF (by omega) (by omega) [] (fun _ => True) (soft_nil _ _) hrr fun w1 a ab args K2 e1 e2 e3 => ?_).mono ?_
    · refine (effect_pop _ _ ab 1 args a w1 e1 e2).mono ?_
      rintro e w2 ⟨rfl, rfl⟩
      exact ⟨rfl, trivial, Kept.refl _ _⟩
    · rintro e w'' ⟨r, w1, rfl, _, p2, p3, p4⟩
      exact ⟨r, rfl, S, mv, (hS2.kept p2).frame p3 p4⟩
end Go.Proofs.YgcsalGreat

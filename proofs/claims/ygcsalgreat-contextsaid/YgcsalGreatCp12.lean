/-
  The steps of a run with memory: instructions that push one word.
-/
import Derived.Test.YgcsalGreatCp9
import Derived.Test.YgcsalGreatCp10
import Derived.Test.YgcsalGreatCp11
set_option linter.unusedSimpArgs false
set_option linter.unusedVariables false
namespace Go.Own
section
variable {wB : World} {c fbB : Nat} {E : CEnv} {S : List Nat} {rr fb q n cap : Nat} {fs0 : Array Value} {m G : Nat} {ns : List Nat} {mv : Value} {mem : List Nat} {W : Nat} {rt : Value} {rd : List Nat} {la : List (List Nat)} {w w' : World}
/-- Only the frame's row was written. -/
theorem StM.frame {rr' m' G' : Nat} {ns' : List Nat} (h : StM wB c fbB E S rr fb q n cap fs0 m G ns mv mem W rt rd la w) (K : Kept [fb] w w') (hF : FrameM S rr' w' fb q fs0 m' G' ns' mv) : StM wB c fbB E S rr' fb q n cap fs0 m' G' ns' mv mem W rt rd la w' := by
  obtain ⟨fs, f1, _, _, _, fn⟩ := h.fr.row
  exact ⟨h.k.since K h.b, h.b, h.ch.frame K f1, hF, h.mm.keptC K f1 fn, h.sm, h.len, h.wle, h.rt.keptC K f1 fn, fun b hb => Nat.lt_of_lt_of_le (h.sl b hb) K.size⟩
theorem StM.kept (h : StM wB c fbB E S rr fb q n cap fs0 m G ns mv mem W rt rd la w) (K : Kept [] w w') : StM wB c fbB E S rr fb q n cap fs0 m G ns mv mem W rt rd la w' := h.frame (K.mono (by simp)) (h.fr.kept K)
end
end Go.Own
namespace Go.Proofs.YgcsalGreat
open Go.RowKit Go.Own
theorem stepX_push01 {wB : World} {c fbB : Nat} {E : CEnv} {rr fb cap : Nat} {fs0 : Array Value} {m G : Nat} {ns : List Nat} {mem : List Nat} {W : Nat} {rt : Value} {rd : List Nat} {la : List (List Nat)} {w : World} {cv : Value} {ds : List Nat} (V : Nat) (r2 : Nat) (hE : StE wB c fbB E rr fb 0 1 cap fs0 m G ns mem W rt rd la w) (hH : Hard [c, fbB] wB) (hcv : NatV wB cv ds) (hfc : FrD fs0 0 cv) (hm : ds[m]? = some 95) (hl : ds.length ≤ 1000) (hns : ns.length ≤ 20) (hm1 : m ≤ 900) (hkG : 2 ≤ G) (hG : G ≤ 1000000) (hr2 : r2 ≤ rr) (hr3 : r2 ≤ ns.length) (hV : be (cutB ds (m + 1) 0) = V) :
    Calls Salg.prog 27 #[.pointer (some ⟨c, 0, none⟩)] w fun e w' => e = .returned (.bool true) ∧ StE wB c fbB E r2 fb 0 1 cap fs0 (m + (1 + 0)) (G - 2) (ns ++ [V]) mem W rt rd la w' := by
  obtain ⟨S, mv, hS⟩ := hE
  obtain ⟨cs, c1, c9, c10, c11, cn⟩ := hS.ch.row
  obtain ⟨mp, mc, em⟩ := hS.mm.cell
  have hG2 : G < 256 ^ 100 := Nat.lt_of_le_of_lt hG (by decide)
  have hcw := hcv.keptN hS.k hH
  have hwle := hS.wle
  refine stepM_plain1 S rr c fb m G 2 0 2 0 0 0 95 cs fs0 cap _ cv mv ds (fun w' => FrameM S rr w' fb 0 fs0 m (G - 2) ns mv) _ (fun _ _ => True) w (by decide) c1 c9 c11 hS.sl hS.fr hcw hm hl hfc hkG (Nat.lt_of_lt_of_le hG2 (by decide)) ?_ ?_ ?_ family_push0 (by decide) ?_
  · intro w' K1
    have hF := hS.fr.kept K1
    refine refusalD_push0 _ fb 0 m G 2 fs0 cv _ _ w' hF.toQ hfc (by simp) (by (try simp); omega) hkG fun w1 K2 => ?_
    obtain ⟨fs, f1, _, _, f9, _⟩ := (hF.kept K2).row
    rw [em] at f9
    refine costM_no _ fb 0 95 2 0 mem.length W fs mp mc w1 f1 f9 (by decide) hS.len (by omega) (by decide) (Nat.zero_le _) (fun w2 K3 => ?_) (fun w2 K3 => ?_)
    · exact bareCost_push0 _ _ w2
    · refine (reach_push0 _ w2).mono ?_
      rintro e w3 ⟨rfl, rfl⟩
      exact ⟨_, rfl, nil_num _, Kept.refl _ _⟩
  · intro w' K1 hF
    refine (reach_push0 _ w').mono ?_
    rintro e w3 ⟨rfl, rfl⟩
    exact ⟨_, rfl, nil_num _, Kept.refl _ _⟩
  · intro w' r K1 hF hr
    obtain ⟨fs, f1, _, _, f9, _⟩ := hF.row
    rw [em] at f9
    refine (growM_no fb 0 0 mem.length W fs mp mc r w' f1 f9 hr hS.len (by omega) (by decide) (Nat.zero_le _)).mono ?_
    rintro e w3 ⟨r', rfl, K⟩
    exact ⟨r', rfl, hF.kept K, K.mono (by simp)⟩
  · intro w' K1 hF
    have hS2 := hS.frame K1 hF
    have hcw2 := hcv.keptN hS2.k hH
    refine (plainM_push S rr r2 _ fb 0 m (G - 2) 95 0 2 fs0 cv mv ds ns w' opk_push0 (by decide) (by decide) hS2.sl hF hr2 hr3 hfc.f10 hcw2 (by omega) (by omega) hl).mono ?_
    rintro e w'' ⟨r, rfl, K2, hF2⟩
    rw [hV] at hF2
    exact ⟨r, rfl, S, mv, hS2.frame K2 hF2⟩
theorem stepX_push11 {wB : World} {c fbB : Nat} {E : CEnv} {rr fb cap : Nat} {fs0 : Array Value} {m G : Nat} {ns : List Nat} {mem : List Nat} {W : Nat} {rt : Value} {rd : List Nat} {la : List (List Nat)} {w : World} {cv : Value} {ds : List Nat} (V : Nat) (r2 : Nat) (hE : StE wB c fbB E rr fb 0 1 cap fs0 m G ns mem W rt rd la w) (hH : Hard [c, fbB] wB) (hcv : NatV wB cv ds) (hfc : FrD fs0 0 cv) (hm : ds[m]? = some 96) (hl : ds.length ≤ 1000) (hns : ns.length ≤ 20) (hm1 : m ≤ 900) (hkG : 3 ≤ G) (hG : G ≤ 1000000) (hr2 : r2 ≤ rr) (hr3 : r2 ≤ ns.length) (hV : be (cutB ds (m + 1) 1) = V) :
    Calls Salg.prog 27 #[.pointer (some ⟨c, 0, none⟩)] w fun e w' => e = .returned (.bool true) ∧ StE wB c fbB E r2 fb 0 1 cap fs0 (m + (1 + 1)) (G - 3) (ns ++ [V]) mem W rt rd la w' := by
  obtain ⟨S, mv, hS⟩ := hE
  obtain ⟨cs, c1, c9, c10, c11, cn⟩ := hS.ch.row
  obtain ⟨mp, mc, em⟩ := hS.mm.cell
  have hG2 : G < 256 ^ 100 := Nat.lt_of_le_of_lt hG (by decide)
  have hcw := hcv.keptN hS.k hH
  have hwle := hS.wle
  refine stepM_plain1 S rr c fb m G 3 0 2 0 0 0 96 cs fs0 cap _ cv mv ds (fun w' => FrameM S rr w' fb 0 fs0 m (G - 3) ns mv) _ (fun _ _ => True) w (by decide) c1 c9 c11 hS.sl hS.fr hcw hm hl hfc hkG (Nat.lt_of_lt_of_le hG2 (by decide)) ?_ ?_ ?_ (fun w => family_push 96 w (by decide) (by decide)) (by decide) ?_
  · intro w' K1
    have hF := hS.fr.kept K1
    refine refusalD_push1 _ fb 0 m G 3 fs0 cv _ _ w' hF.toQ hfc (by simp) (by (try simp); omega) hkG fun w1 K2 => ?_
    obtain ⟨fs, f1, _, _, f9, _⟩ := (hF.kept K2).row
    rw [em] at f9
    refine costM_no _ fb 0 96 3 0 mem.length W fs mp mc w1 f1 f9 (by decide) hS.len (by omega) (by decide) (Nat.zero_le _) (fun w2 K3 => ?_) (fun w2 K3 => ?_)
    · exact bareCost_push _ _ 96 w2 (by decide) (by decide)
    · refine (reach_push _ 96 w2 (by decide) (by decide)).mono ?_
      rintro e w3 ⟨rfl, rfl⟩
      exact ⟨_, rfl, nil_num _, Kept.refl _ _⟩
  · intro w' K1 hF
    refine (reach_push _ 96 w' (by decide) (by decide)).mono ?_
    rintro e w3 ⟨rfl, rfl⟩
    exact ⟨_, rfl, nil_num _, Kept.refl _ _⟩
  · intro w' r K1 hF hr
    obtain ⟨fs, f1, _, _, f9, _⟩ := hF.row
    rw [em] at f9
    refine (growM_no fb 0 0 mem.length W fs mp mc r w' f1 f9 hr hS.len (by omega) (by decide) (Nat.zero_le _)).mono ?_
    rintro e w3 ⟨r', rfl, K⟩
    exact ⟨r', rfl, hF.kept K, K.mono (by simp)⟩
  · intro w' K1 hF
    have hS2 := hS.frame K1 hF
    have hcw2 := hcv.keptN hS2.k hH
    refine (plainM_push S rr r2 _ fb 0 m (G - 3) 96 1 3 fs0 cv mv ds ns w' (opk_push 96 (by decide) (by decide)) (by decide) (by decide) hS2.sl hF hr2 hr3 hfc.f10 hcw2 (by omega) (by omega) hl).mono ?_
    rintro e w'' ⟨r, rfl, K2, hF2⟩
    rw [hV] at hF2
    exact ⟨r, rfl, S, mv, hS2.frame K2 hF2⟩
theorem stepX_push321 {wB : World} {c fbB : Nat} {E : CEnv} {rr fb cap : Nat} {fs0 : Array Value} {m G : Nat} {ns : List Nat} {mem : List Nat} {W : Nat} {rt : Value} {rd : List Nat} {la : List (List Nat)} {w : World} {cv : Value} {ds : List Nat} (V : Nat) (r2 : Nat) (hE : StE wB c fbB E rr fb 0 1 cap fs0 m G ns mem W rt rd la w) (hH : Hard [c, fbB] wB) (hcv : NatV wB cv ds) (hfc : FrD fs0 0 cv) (hm : ds[m]? = some 127) (hl : ds.length ≤ 1000) (hns : ns.length ≤ 20) (hm1 : m ≤ 900) (hkG : 3 ≤ G) (hG : G ≤ 1000000) (hr2 : r2 ≤ rr) (hr3 : r2 ≤ ns.length) (hV : be (cutB ds (m + 1) 32) = V) :
    Calls Salg.prog 27 #[.pointer (some ⟨c, 0, none⟩)] w fun e w' => e = .returned (.bool true) ∧ StE wB c fbB E r2 fb 0 1 cap fs0 (m + (1 + 32)) (G - 3) (ns ++ [V]) mem W rt rd la w' := by
  obtain ⟨S, mv, hS⟩ := hE
  obtain ⟨cs, c1, c9, c10, c11, cn⟩ := hS.ch.row
  obtain ⟨mp, mc, em⟩ := hS.mm.cell
  have hG2 : G < 256 ^ 100 := Nat.lt_of_le_of_lt hG (by decide)
  have hcw := hcv.keptN hS.k hH
  have hwle := hS.wle
  refine stepM_plain1 S rr c fb m G 3 0 2 0 0 0 127 cs fs0 cap _ cv mv ds (fun w' => FrameM S rr w' fb 0 fs0 m (G - 3) ns mv) _ (fun _ _ => True) w (by decide) c1 c9 c11 hS.sl hS.fr hcw hm hl hfc hkG (Nat.lt_of_lt_of_le hG2 (by decide)) ?_ ?_ ?_ (fun w => family_push 127 w (by decide) (by decide)) (by decide) ?_
  · intro w' K1
    have hF := hS.fr.kept K1
    refine refusalD_push32 _ fb 0 m G 3 fs0 cv _ _ w' hF.toQ hfc (by simp) (by (try simp); omega) hkG fun w1 K2 => ?_
    obtain ⟨fs, f1, _, _, f9, _⟩ := (hF.kept K2).row
    rw [em] at f9
    refine costM_no _ fb 0 127 3 0 mem.length W fs mp mc w1 f1 f9 (by decide) hS.len (by omega) (by decide) (Nat.zero_le _) (fun w2 K3 => ?_) (fun w2 K3 => ?_)
    · exact bareCost_push _ _ 127 w2 (by decide) (by decide)
    · refine (reach_push _ 127 w2 (by decide) (by decide)).mono ?_
      rintro e w3 ⟨rfl, rfl⟩
      exact ⟨_, rfl, nil_num _, Kept.refl _ _⟩
  · intro w' K1 hF
    refine (reach_push _ 127 w' (by decide) (by decide)).mono ?_
    rintro e w3 ⟨rfl, rfl⟩
    exact ⟨_, rfl, nil_num _, Kept.refl _ _⟩
  · intro w' r K1 hF hr
    obtain ⟨fs, f1, _, _, f9, _⟩ := hF.row
    rw [em] at f9
    refine (growM_no fb 0 0 mem.length W fs mp mc r w' f1 f9 hr hS.len (by omega) (by decide) (Nat.zero_le _)).mono ?_
    rintro e w3 ⟨r', rfl, K⟩
    exact ⟨r', rfl, hF.kept K, K.mono (by simp)⟩
  · intro w' K1 hF
    have hS2 := hS.frame K1 hF
    have hcw2 := hcv.keptN hS2.k hH
    refine (plainM_push S rr r2 _ fb 0 m (G - 3) 127 32 3 fs0 cv mv ds ns w' (opk_push 127 (by decide) (by decide)) (by decide) (by decide) hS2.sl hF hr2 hr3 hfc.f10 hcw2 (by omega) (by omega) hl).mono ?_
    rintro e w'' ⟨r, rfl, K2, hF2⟩
    rw [hV] at hF2
    exact ⟨r, rfl, S, mv, hS2.frame K2 hF2⟩
theorem stepX_not1 {wB : World} {c fbB : Nat} {E : CEnv} {rr fb cap : Nat} {fs0 : Array Value} {m G : Nat} {ns : List Nat} {mem : List Nat} {W : Nat} {rt : Value} {rd : List Nat} {la : List (List Nat)} {w : World} {cv : Value} {ds : List Nat} (A : Nat) (r2 : Nat) (hE : StE wB c fbB E rr fb 0 1 cap fs0 m G (ns ++ [A]) mem W rt rd la w) (hH : Hard [c, fbB] wB) (hcv : NatV wB cv ds) (hfc : FrD fs0 0 cv) (hm : ds[m]? = some 25) (hl : ds.length ≤ 1000) (hns : ns.length ≤ 20) (hm1 : m ≤ 900) (hkG : 3 ≤ G) (hG : G ≤ 1000000) (hr2 : r2 ≤ rr) (hr3 : r2 ≤ ns.length) (hA : A < 2 ^ 256) :
    Calls Salg.prog 27 #[.pointer (some ⟨c, 0, none⟩)] w fun e w' => e = .returned (.bool true) ∧ StE wB c fbB E r2 fb 0 1 cap fs0 (m + 1) (G - 3) (ns ++ [((18446744073709551616 ^ 4 - 1 - A) % 18446744073709551616 ^ 4)]) mem W rt rd la w' := by
  obtain ⟨S, mv, hS⟩ := hE
  obtain ⟨cs, c1, c9, c10, c11, cn⟩ := hS.ch.row
  obtain ⟨mp, mc, em⟩ := hS.mm.cell
  have hG2 : G < 256 ^ 100 := Nat.lt_of_le_of_lt hG (by decide)
  have hcw := hcv.keptN hS.k hH
  have hwle := hS.wle
  refine stepM_plain1 S rr c fb m G 3 0 1 0 0 0 25 cs fs0 cap _ cv mv ds (fun w' => FrameM S rr w' fb 0 fs0 m (G - 3) (ns ++ [A]) mv) _ (fun _ _ => True) w (by decide) c1 c9 c11 hS.sl hS.fr hcw hm hl hfc hkG (Nat.lt_of_lt_of_le hG2 (by decide)) ?_ ?_ ?_ family_not (by decide) ?_
  · intro w' K1
    have hF := hS.fr.kept K1
    refine refusalD_not _ fb 0 m G 3 fs0 cv _ _ w' hF.toQ hfc (by simp) (by (try simp); omega) hkG fun w1 K2 => ?_
    obtain ⟨fs, f1, _, _, f9, _⟩ := (hF.kept K2).row
    rw [em] at f9
    refine costM_no _ fb 0 25 3 0 mem.length W fs mp mc w1 f1 f9 (by decide) hS.len (by omega) (by decide) (Nat.zero_le _) (fun w2 K3 => ?_) (fun w2 K3 => ?_)
    · exact bareCost_not _ _ w2
    · refine (reach_not _ w2).mono ?_
      rintro e w3 ⟨rfl, rfl⟩
      exact ⟨_, rfl, nil_num _, Kept.refl _ _⟩
  · intro w' K1 hF
    refine (reach_not _ w').mono ?_
    rintro e w3 ⟨rfl, rfl⟩
    exact ⟨_, rfl, nil_num _, Kept.refl _ _⟩
  · intro w' r K1 hF hr
    obtain ⟨fs, f1, _, _, f9, _⟩ := hF.row
    rw [em] at f9
    refine (growM_no fb 0 0 mem.length W fs mp mc r w' f1 f9 hr hS.len (by omega) (by decide) (Nat.zero_le _)).mono ?_
    rintro e w3 ⟨r', rfl, K⟩
    exact ⟨r', rfl, hF.kept K, K.mono (by simp)⟩
  · intro w' K1 hF
    have hS2 := hS.frame K1 hF
    have hcw2 := hcv.keptN hS2.k hH
    refine (plainM_not S rr r2 _ fb 0 m (G - 3) A 0 0 0 ((18446744073709551616 ^ 4 - 1 - A) % 18446744073709551616 ^ 4) fs0 mv ns w' hS2.sl hF (by omega) (by omega) hr2 hr3 fun w1 a ab args K2 e1 e2 e3 => ?_).mono ?_
    · have hF1 := hF.kept K2
      have hS3 := hS2.kept K2
      obtain ⟨fs, f1, _, _, _, _⟩ := hF1.row
      exact valueM_not _ a nilS 0 fb 0 ab A #[] fs args [] w1 f1 e1 e2 e3 hA
    · skip
      rintro e w'' ⟨r, rfl, K2, hF2⟩
      exact ⟨r, rfl, S, mv, hS2.frame K2 hF2⟩
theorem stepX_calldataload1 {wB : World} {c fbB : Nat} {E : CEnv} {rr fb cap : Nat} {fs0 : Array Value} {m G : Nat} {ns : List Nat} {mem : List Nat} {W : Nat} {rt : Value} {rd : List Nat} {la : List (List Nat)} {w : World} {cv : Value} {ds : List Nat} (A : Nat) (iu : Value) (dd : List Nat) (r2 : Nat) (hE : StE wB c fbB E rr fb 0 1 cap fs0 m G (ns ++ [A]) mem W rt rd la w) (hH : Hard [c, fbB] wB) (hcv : NatV wB cv ds) (hfc : FrD fs0 0 cv) (hm : ds[m]? = some 53) (hl : ds.length ≤ 1000) (hns : ns.length ≤ 20) (hm1 : m ≤ 900) (hkG : 3 ≤ G) (hG : G ≤ 1000000) (hr2 : r2 ≤ rr) (hr3 : r2 ≤ ns.length) (hiu : NatV wB iu dd) (h11 : fs0[0 + 11]? = some iu) (hdl : dd.length ≤ 1000) :
    Calls Salg.prog 27 #[.pointer (some ⟨c, 0, none⟩)] w fun e w' => e = .returned (.bool true) ∧ StE wB c fbB E r2 fb 0 1 cap fs0 (m + 1) (G - 3) (ns ++ [(be (cutB dd A 32))]) mem W rt rd la w' := by
  obtain ⟨S, mv, hS⟩ := hE
  obtain ⟨cs, c1, c9, c10, c11, cn⟩ := hS.ch.row
  obtain ⟨mp, mc, em⟩ := hS.mm.cell
  have hG2 : G < 256 ^ 100 := Nat.lt_of_le_of_lt hG (by decide)
  have hcw := hcv.keptN hS.k hH
  have hwle := hS.wle
  refine stepM_plain1 S rr c fb m G 3 0 2 0 0 0 53 cs fs0 cap _ cv mv ds (fun w' => FrameM S rr w' fb 0 fs0 m (G - 3) (ns ++ [A]) mv) _ (fun _ _ => True) w (by decide) c1 c9 c11 hS.sl hS.fr hcw hm hl hfc hkG (Nat.lt_of_lt_of_le hG2 (by decide)) ?_ ?_ ?_ family_calldataload (by decide) ?_
  · intro w' K1
    have hF := hS.fr.kept K1
    refine refusalD_calldataload _ fb 0 m G 3 fs0 cv _ _ w' hF.toQ hfc (by simp) (by (try simp); omega) hkG fun w1 K2 => ?_
    obtain ⟨fs, f1, _, _, f9, _⟩ := (hF.kept K2).row
    rw [em] at f9
    refine costM_no _ fb 0 53 3 0 mem.length W fs mp mc w1 f1 f9 (by decide) hS.len (by omega) (by decide) (Nat.zero_le _) (fun w2 K3 => ?_) (fun w2 K3 => ?_)
    · exact bareCost_calldataload _ _ w2
    · refine (reach_calldataload _ w2).mono ?_
      rintro e w3 ⟨rfl, rfl⟩
      exact ⟨_, rfl, nil_num _, Kept.refl _ _⟩
  · intro w' K1 hF
    refine (reach_calldataload _ w').mono ?_
    rintro e w3 ⟨rfl, rfl⟩
    exact ⟨_, rfl, nil_num _, Kept.refl _ _⟩
  · intro w' r K1 hF hr
    obtain ⟨fs, f1, _, _, f9, _⟩ := hF.row
    rw [em] at f9
    refine (growM_no fb 0 0 mem.length W fs mp mc r w' f1 f9 hr hS.len (by omega) (by decide) (Nat.zero_le _)).mono ?_
    rintro e w3 ⟨r', rfl, K⟩
    exact ⟨r', rfl, hF.kept K, K.mono (by simp)⟩
  · intro w' K1 hF
    have hS2 := hS.frame K1 hF
    have hcw2 := hcv.keptN hS2.k hH
    refine (plainM_calldataload S rr r2 _ fb 0 m (G - 3) A 0 0 0 (be (cutB dd A 32)) fs0 mv ns w' hS2.sl hF (by omega) (by omega) hr2 hr3 fun w1 a ab args K2 e1 e2 e3 => ?_).mono ?_
    · have hF1 := hF.kept K2
      have hS3 := hS2.kept K2
      obtain ⟨fs, f1, _, f2, _, _⟩ := hF1.row
      exact valueM_calldataload _ a iu 0 fb 0 ab A #[] fs args dd w1 f1 e1 e2 e3 ((f2 (0 + 11) (by omega) (by omega) (by omega) (by omega)).trans h11) (hiu.keptN hS3.k hH) hdl
    · skip
      rintro e w'' ⟨r, rfl, K2, hF2⟩
      exact ⟨r, rfl, S, mv, hS2.frame K2 hF2⟩
theorem stepX_calldatasize1 {wB : World} {c fbB : Nat} {E : CEnv} {rr fb cap : Nat} {fs0 : Array Value} {m G : Nat} {ns : List Nat} {mem : List Nat} {W : Nat} {rt : Value} {rd : List Nat} {la : List (List Nat)} {w : World} {cv : Value} {ds : List Nat} (A : Nat) (sp : Option Addr) (sq : Nat) (r2 : Nat) (hE : StE wB c fbB E rr fb 0 1 cap fs0 m G ns mem W rt rd la w) (hH : Hard [c, fbB] wB) (hcv : NatV wB cv ds) (hfc : FrD fs0 0 cv) (hm : ds[m]? = some 54) (hl : ds.length ≤ 1000) (hns : ns.length ≤ 20) (hm1 : m ≤ 900) (hkG : 2 ≤ G) (hG : G ≤ 1000000) (hr2 : r2 ≤ rr) (hr3 : r2 ≤ ns.length) (h11 : fs0[0 + 11]? = some (.slice sp A sq)) (hA : A ≤ 100000) :
    Calls Salg.prog 27 #[.pointer (some ⟨c, 0, none⟩)] w fun e w' => e = .returned (.bool true) ∧ StE wB c fbB E r2 fb 0 1 cap fs0 (m + 1) (G - 2) (ns ++ [A]) mem W rt rd la w' := by
  obtain ⟨S, mv, hS⟩ := hE
  obtain ⟨cs, c1, c9, c10, c11, cn⟩ := hS.ch.row
  obtain ⟨mp, mc, em⟩ := hS.mm.cell
  have hG2 : G < 256 ^ 100 := Nat.lt_of_le_of_lt hG (by decide)
  have hcw := hcv.keptN hS.k hH
  have hwle := hS.wle
  refine stepM_plain1 S rr c fb m G 2 0 2 0 0 0 54 cs fs0 cap _ cv mv ds (fun w' => FrameM S rr w' fb 0 fs0 m (G - 2) ns mv) _ (fun _ _ => True) w (by decide) c1 c9 c11 hS.sl hS.fr hcw hm hl hfc hkG (Nat.lt_of_lt_of_le hG2 (by decide)) ?_ ?_ ?_ family_calldatasize (by decide) ?_
  · intro w' K1
    have hF := hS.fr.kept K1
    refine refusalD_calldatasize _ fb 0 m G 2 fs0 cv _ _ w' hF.toQ hfc (by simp) (by (try simp); omega) hkG fun w1 K2 => ?_
    obtain ⟨fs, f1, _, _, f9, _⟩ := (hF.kept K2).row
    rw [em] at f9
    refine costM_no _ fb 0 54 2 0 mem.length W fs mp mc w1 f1 f9 (by decide) hS.len (by omega) (by decide) (Nat.zero_le _) (fun w2 K3 => ?_) (fun w2 K3 => ?_)
    · exact bareCost_calldatasize _ _ w2
    · refine (reach_calldatasize _ w2).mono ?_
      rintro e w3 ⟨rfl, rfl⟩
      exact ⟨_, rfl, nil_num _, Kept.refl _ _⟩
  · intro w' K1 hF
    refine (reach_calldatasize _ w').mono ?_
    rintro e w3 ⟨rfl, rfl⟩
    exact ⟨_, rfl, nil_num _, Kept.refl _ _⟩
  · intro w' r K1 hF hr
    obtain ⟨fs, f1, _, _, f9, _⟩ := hF.row
    rw [em] at f9
    refine (growM_no fb 0 0 mem.length W fs mp mc r w' f1 f9 hr hS.len (by omega) (by decide) (Nat.zero_le _)).mono ?_
    rintro e w3 ⟨r', rfl, K⟩
    exact ⟨r', rfl, hF.kept K, K.mono (by simp)⟩
  · intro w' K1 hF
    have hS2 := hS.frame K1 hF
    have hcw2 := hcv.keptN hS2.k hH
    refine (plainM_calldatasize S rr r2 _ fb 0 m (G - 2) 0 0 0 0 A fs0 mv ns w' hS2.sl hF (by omega) (by omega) hr2 hr3 fun w1 ab args K2 e1  => ?_).mono ?_
    · have hF1 := hF.kept K2
      have hS3 := hS2.kept K2
      obtain ⟨fs, f1, _, f2, _, _⟩ := hF1.row
      exact valueM_calldatasize _ nilS nilS sp sq 0 fb 0 ab A #[] fs args [] w1 f1 ((f2 (0 + 11) (by omega) (by omega) (by omega) (by omega)).trans h11) hA
    · skip
      rintro e w'' ⟨r, rfl, K2, hF2⟩
      exact ⟨r, rfl, S, mv, hS2.frame K2 hF2⟩
theorem stepX_gas1 {wB : World} {c fbB : Nat} {E : CEnv} {rr fb cap : Nat} {fs0 : Array Value} {m G : Nat} {ns : List Nat} {mem : List Nat} {W : Nat} {rt : Value} {rd : List Nat} {la : List (List Nat)} {w : World} {cv : Value} {ds : List Nat} (r2 : Nat) (hE : StE wB c fbB E rr fb 0 1 cap fs0 m G ns mem W rt rd la w) (hH : Hard [c, fbB] wB) (hcv : NatV wB cv ds) (hfc : FrD fs0 0 cv) (hm : ds[m]? = some 90) (hl : ds.length ≤ 1000) (hns : ns.length ≤ 20) (hm1 : m ≤ 900) (hkG : 2 ≤ G) (hG : G ≤ 1000000) (hr2 : r2 ≤ rr) (hr3 : r2 ≤ ns.length) :
    Calls Salg.prog 27 #[.pointer (some ⟨c, 0, none⟩)] w fun e w' => e = .returned (.bool true) ∧ StE wB c fbB E r2 fb 0 1 cap fs0 (m + 1) (G - 2) (ns ++ [(G - 2)]) mem W rt rd la w' := by
  obtain ⟨S, mv, hS⟩ := hE
  obtain ⟨cs, c1, c9, c10, c11, cn⟩ := hS.ch.row
  obtain ⟨mp, mc, em⟩ := hS.mm.cell
  have hG2 : G < 256 ^ 100 := Nat.lt_of_le_of_lt hG (by decide)
  have hcw := hcv.keptN hS.k hH
  have hwle := hS.wle
  refine stepM_plain1 S rr c fb m G 2 0 4 0 0 0 90 cs fs0 cap _ cv mv ds (fun w' => FrameM S rr w' fb 0 fs0 m (G - 2) ns mv) _ (fun _ _ => True) w (by decide) c1 c9 c11 hS.sl hS.fr hcw hm hl hfc hkG (Nat.lt_of_lt_of_le hG2 (by decide)) ?_ ?_ ?_ family_gas (by decide) ?_
  · intro w' K1
    have hF := hS.fr.kept K1
    refine refusalD_gas _ fb 0 m G 2 fs0 cv _ _ w' hF.toQ hfc (by simp) (by (try simp); omega) hkG fun w1 K2 => ?_
    obtain ⟨fs, f1, _, _, f9, _⟩ := (hF.kept K2).row
    rw [em] at f9
    refine costM_no _ fb 0 90 2 0 mem.length W fs mp mc w1 f1 f9 (by decide) hS.len (by omega) (by decide) (Nat.zero_le _) (fun w2 K3 => ?_) (fun w2 K3 => ?_)
    · exact bareCost_gas _ _ w2
    · refine (reach_gas _ w2).mono ?_
      rintro e w3 ⟨rfl, rfl⟩
      exact ⟨_, rfl, nil_num _, Kept.refl _ _⟩
  · intro w' K1 hF
    refine (reach_gas _ w').mono ?_
    rintro e w3 ⟨rfl, rfl⟩
    exact ⟨_, rfl, nil_num _, Kept.refl _ _⟩
  · intro w' r K1 hF hr
    obtain ⟨fs, f1, _, _, f9, _⟩ := hF.row
    rw [em] at f9
    refine (growM_no fb 0 0 mem.length W fs mp mc r w' f1 f9 hr hS.len (by omega) (by decide) (Nat.zero_le _)).mono ?_
    rintro e w3 ⟨r', rfl, K⟩
    exact ⟨r', rfl, hF.kept K, K.mono (by simp)⟩
  · intro w' K1 hF
    have hS2 := hS.frame K1 hF
    have hcw2 := hcv.keptN hS2.k hH
    refine (plainM_gas S rr r2 _ fb 0 m (G - 2) 0 0 0 0 (G - 2) fs0 mv ns w' hS2.sl hF (by omega) (by omega) hr2 hr3 fun w1 ab args K2 e1  => ?_).mono ?_
    · have hF1 := hF.kept K2
      have hS3 := hS2.kept K2
      obtain ⟨fs, pv, gv, sv, xs, h1, h0, h2, h3, h4, h5, h6, h7, h8, h9, ha, _⟩ := hF1
      exact valueM_gas _ nilS gv 0 fb 0 ab (G - 2) #[] fs args [] w1 h1 h5 h6.num
    · skip
      rintro e w'' ⟨r, rfl, K2, hF2⟩
      exact ⟨r, rfl, S, mv, hS2.frame K2 hF2⟩
theorem stepX_push02 {wB : World} {c fbB : Nat} {E : CEnv} {rr fb cap : Nat} {fs0 : Array Value} {m G : Nat} {ns : List Nat} {mem : List Nat} {W : Nat} {rt : Value} {rd : List Nat} {la : List (List Nat)} {w : World} {cv : Value} {ds : List Nat} (V : Nat) (r2 : Nat) (hE : StE wB c fbB E rr fb 60 2 cap fs0 m G ns mem W rt rd la w) (hH : Hard [c, fbB] wB) (hcv : NatV wB cv ds) (hfc : FrD fs0 60 cv) (hm : ds[m]? = some 95) (hl : ds.length ≤ 1000) (hns : ns.length ≤ 20) (hm1 : m ≤ 900) (hkG : 2 ≤ G) (hG : G ≤ 1000000) (hr2 : r2 ≤ rr) (hr3 : r2 ≤ ns.length) (hV : be (cutB ds (m + 1) 0) = V) :
    Calls Salg.prog 27 #[.pointer (some ⟨c, 0, none⟩)] w fun e w' => e = .returned (.bool true) ∧ StE wB c fbB E r2 fb 60 2 cap fs0 (m + (1 + 0)) (G - 2) (ns ++ [V]) mem W rt rd la w' := by
  obtain ⟨S, mv, hS⟩ := hE
  obtain ⟨cs, c1, c9, c10, c11, cn⟩ := hS.ch.row
  obtain ⟨mp, mc, em⟩ := hS.mm.cell
  have hG2 : G < 256 ^ 100 := Nat.lt_of_le_of_lt hG (by decide)
  have hcw := hcv.keptN hS.k hH
  have hwle := hS.wle
  refine stepM_plain2 S rr c fb m G 2 0 2 0 0 0 95 cs fs0 cap _ cv mv ds (fun w' => FrameM S rr w' fb 60 fs0 m (G - 2) ns mv) _ (fun _ _ => True) w (by decide) c1 c9 c11 hS.sl hS.fr hcw hm hl hfc hkG (Nat.lt_of_lt_of_le hG2 (by decide)) ?_ ?_ ?_ family_push0 (by decide) ?_
  · intro w' K1
    have hF := hS.fr.kept K1
    refine refusalD_push0 _ fb 60 m G 2 fs0 cv _ _ w' hF.toQ hfc (by simp) (by (try simp); omega) hkG fun w1 K2 => ?_
    obtain ⟨fs, f1, _, _, f9, _⟩ := (hF.kept K2).row
    rw [em] at f9
    refine costM_no _ fb 60 95 2 0 mem.length W fs mp mc w1 f1 f9 (by decide) hS.len (by omega) (by decide) (Nat.zero_le _) (fun w2 K3 => ?_) (fun w2 K3 => ?_)
    · exact bareCost_push0 _ _ w2
    · refine (reach_push0 _ w2).mono ?_
      rintro e w3 ⟨rfl, rfl⟩
      exact ⟨_, rfl, nil_num _, Kept.refl _ _⟩
  · intro w' K1 hF
    refine (reach_push0 _ w').mono ?_
    rintro e w3 ⟨rfl, rfl⟩
    exact ⟨_, rfl, nil_num _, Kept.refl _ _⟩
  · intro w' r K1 hF hr
    obtain ⟨fs, f1, _, _, f9, _⟩ := hF.row
    rw [em] at f9
    refine (growM_no fb 60 0 mem.length W fs mp mc r w' f1 f9 hr hS.len (by omega) (by decide) (Nat.zero_le _)).mono ?_
    rintro e w3 ⟨r', rfl, K⟩
    exact ⟨r', rfl, hF.kept K, K.mono (by simp)⟩
  · intro w' K1 hF
    have hS2 := hS.frame K1 hF
    have hcw2 := hcv.keptN hS2.k hH
    refine (plainM_push S rr r2 _ fb 60 m (G - 2) 95 0 2 fs0 cv mv ds ns w' opk_push0 (by decide) (by decide) hS2.sl hF hr2 hr3 hfc.f10 hcw2 (by omega) (by omega) hl).mono ?_
    rintro e w'' ⟨r, rfl, K2, hF2⟩
    rw [hV] at hF2
    exact ⟨r, rfl, S, mv, hS2.frame K2 hF2⟩
theorem stepX_push12 {wB : World} {c fbB : Nat} {E : CEnv} {rr fb cap : Nat} {fs0 : Array Value} {m G : Nat} {ns : List Nat} {mem : List Nat} {W : Nat} {rt : Value} {rd : List Nat} {la : List (List Nat)} {w : World} {cv : Value} {ds : List Nat} (V : Nat) (r2 : Nat) (hE : StE wB c fbB E rr fb 60 2 cap fs0 m G ns mem W rt rd la w) (hH : Hard [c, fbB] wB) (hcv : NatV wB cv ds) (hfc : FrD fs0 60 cv) (hm : ds[m]? = some 96) (hl : ds.length ≤ 1000) (hns : ns.length ≤ 20) (hm1 : m ≤ 900) (hkG : 3 ≤ G) (hG : G ≤ 1000000) (hr2 : r2 ≤ rr) (hr3 : r2 ≤ ns.length) (hV : be (cutB ds (m + 1) 1) = V) :
    Calls Salg.prog 27 #[.pointer (some ⟨c, 0, none⟩)] w fun e w' => e = .returned (.bool true) ∧ StE wB c fbB E r2 fb 60 2 cap fs0 (m + (1 + 1)) (G - 3) (ns ++ [V]) mem W rt rd la w' := by
  obtain ⟨S, mv, hS⟩ := hE
  obtain ⟨cs, c1, c9, c10, c11, cn⟩ := hS.ch.row
  obtain ⟨mp, mc, em⟩ := hS.mm.cell
  have hG2 : G < 256 ^ 100 := Nat.lt_of_le_of_lt hG (by decide)
  have hcw := hcv.keptN hS.k hH
  have hwle := hS.wle
  refine stepM_plain2 S rr c fb m G 3 0 2 0 0 0 96 cs fs0 cap _ cv mv ds (fun w' => FrameM S rr w' fb 60 fs0 m (G - 3) ns mv) _ (fun _ _ => True) w (by decide) c1 c9 c11 hS.sl hS.fr hcw hm hl hfc hkG (Nat.lt_of_lt_of_le hG2 (by decide)) ?_ ?_ ?_ (fun w => family_push 96 w (by decide) (by decide)) (by decide) ?_
  · intro w' K1
    have hF := hS.fr.kept K1
    refine refusalD_push1 _ fb 60 m G 3 fs0 cv _ _ w' hF.toQ hfc (by simp) (by (try simp); omega) hkG fun w1 K2 => ?_
    obtain ⟨fs, f1, _, _, f9, _⟩ := (hF.kept K2).row
    rw [em] at f9
    refine costM_no _ fb 60 96 3 0 mem.length W fs mp mc w1 f1 f9 (by decide) hS.len (by omega) (by decide) (Nat.zero_le _) (fun w2 K3 => ?_) (fun w2 K3 => ?_)
    · exact bareCost_push _ _ 96 w2 (by decide) (by decide)
    · refine (reach_push _ 96 w2 (by decide) (by decide)).mono ?_
      rintro e w3 ⟨rfl, rfl⟩
      exact ⟨_, rfl, nil_num _, Kept.refl _ _⟩
  · intro w' K1 hF
    refine (reach_push _ 96 w' (by decide) (by decide)).mono ?_
    rintro e w3 ⟨rfl, rfl⟩
    exact ⟨_, rfl, nil_num _, Kept.refl _ _⟩
  · intro w' r K1 hF hr
    obtain ⟨fs, f1, _, _, f9, _⟩ := hF.row
    rw [em] at f9
    refine (growM_no fb 60 0 mem.length W fs mp mc r w' f1 f9 hr hS.len (by omega) (by decide) (Nat.zero_le _)).mono ?_
    rintro e w3 ⟨r', rfl, K⟩
    exact ⟨r', rfl, hF.kept K, K.mono (by simp)⟩
  · intro w' K1 hF
    have hS2 := hS.frame K1 hF
    have hcw2 := hcv.keptN hS2.k hH
    refine (plainM_push S rr r2 _ fb 60 m (G - 3) 96 1 3 fs0 cv mv ds ns w' (opk_push 96 (by decide) (by decide)) (by decide) (by decide) hS2.sl hF hr2 hr3 hfc.f10 hcw2 (by omega) (by omega) hl).mono ?_
    rintro e w'' ⟨r, rfl, K2, hF2⟩
    rw [hV] at hF2
    exact ⟨r, rfl, S, mv, hS2.frame K2 hF2⟩
theorem stepX_calldatasize2 {wB : World} {c fbB : Nat} {E : CEnv} {rr fb cap : Nat} {fs0 : Array Value} {m G : Nat} {ns : List Nat} {mem : List Nat} {W : Nat} {rt : Value} {rd : List Nat} {la : List (List Nat)} {w : World} {cv : Value} {ds : List Nat} (A : Nat) (sp : Option Addr) (sq : Nat) (r2 : Nat) (hE : StE wB c fbB E rr fb 60 2 cap fs0 m G ns mem W rt rd la w) (hH : Hard [c, fbB] wB) (hcv : NatV wB cv ds) (hfc : FrD fs0 60 cv) (hm : ds[m]? = some 54) (hl : ds.length ≤ 1000) (hns : ns.length ≤ 20) (hm1 : m ≤ 900) (hkG : 2 ≤ G) (hG : G ≤ 1000000) (hr2 : r2 ≤ rr) (hr3 : r2 ≤ ns.length) (h11 : fs0[60 + 11]? = some (.slice sp A sq)) (hA : A ≤ 100000) :
    Calls Salg.prog 27 #[.pointer (some ⟨c, 0, none⟩)] w fun e w' => e = .returned (.bool true) ∧ StE wB c fbB E r2 fb 60 2 cap fs0 (m + 1) (G - 2) (ns ++ [A]) mem W rt rd la w' := by
  obtain ⟨S, mv, hS⟩ := hE
  obtain ⟨cs, c1, c9, c10, c11, cn⟩ := hS.ch.row
  obtain ⟨mp, mc, em⟩ := hS.mm.cell
  have hG2 : G < 256 ^ 100 := Nat.lt_of_le_of_lt hG (by decide)
  have hcw := hcv.keptN hS.k hH
  have hwle := hS.wle
  refine stepM_plain2 S rr c fb m G 2 0 2 0 0 0 54 cs fs0 cap _ cv mv ds (fun w' => FrameM S rr w' fb 60 fs0 m (G - 2) ns mv) _ (fun _ _ => True) w (by decide) c1 c9 c11 hS.sl hS.fr hcw hm hl hfc hkG (Nat.lt_of_lt_of_le hG2 (by decide)) ?_ ?_ ?_ family_calldatasize (by decide) ?_
  · intro w' K1
    have hF := hS.fr.kept K1
    refine refusalD_calldatasize _ fb 60 m G 2 fs0 cv _ _ w' hF.toQ hfc (by simp) (by (try simp); omega) hkG fun w1 K2 => ?_
    obtain ⟨fs, f1, _, _, f9, _⟩ := (hF.kept K2).row
    rw [em] at f9
    refine costM_no _ fb 60 54 2 0 mem.length W fs mp mc w1 f1 f9 (by decide) hS.len (by omega) (by decide) (Nat.zero_le _) (fun w2 K3 => ?_) (fun w2 K3 => ?_)
    · exact bareCost_calldatasize _ _ w2
    · refine (reach_calldatasize _ w2).mono ?_
      rintro e w3 ⟨rfl, rfl⟩
      exact ⟨_, rfl, nil_num _, Kept.refl _ _⟩
  · intro w' K1 hF
    refine (reach_calldatasize _ w').mono ?_
    rintro e w3 ⟨rfl, rfl⟩
    exact ⟨_, rfl, nil_num _, Kept.refl _ _⟩
  · intro w' r K1 hF hr
    obtain ⟨fs, f1, _, _, f9, _⟩ := hF.row
    rw [em] at f9
    refine (growM_no fb 60 0 mem.length W fs mp mc r w' f1 f9 hr hS.len (by omega) (by decide) (Nat.zero_le _)).mono ?_
    rintro e w3 ⟨r', rfl, K⟩
    exact ⟨r', rfl, hF.kept K, K.mono (by simp)⟩
  · intro w' K1 hF
    have hS2 := hS.frame K1 hF
    have hcw2 := hcv.keptN hS2.k hH
    refine (plainM_calldatasize S rr r2 _ fb 60 m (G - 2) 0 0 0 0 A fs0 mv ns w' hS2.sl hF (by omega) (by omega) hr2 hr3 fun w1 ab args K2 e1  => ?_).mono ?_
    · have hF1 := hF.kept K2
      have hS3 := hS2.kept K2
      obtain ⟨fs, f1, _, f2, _, _⟩ := hF1.row
      exact valueM_calldatasize _ nilS nilS sp sq 0 fb 60 ab A #[] fs args [] w1 f1 ((f2 (60 + 11) (by omega) (by omega) (by omega) (by omega)).trans h11) hA
    · skip
      rintro e w'' ⟨r, rfl, K2, hF2⟩
      exact ⟨r, rfl, S, mv, hS2.frame K2 hF2⟩
end Go.Proofs.YgcsalGreat

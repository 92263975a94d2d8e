/-
  The state of a run of Context: any accounts, any depth, a static flag; the steps that push one word.
-/
import Derived.Test.YgcsalGreatCp8
import Derived.Test.YgcsalGreatCp9
import Derived.Test.YgcsalGreatCx2
import Derived.Test.YgcsalGreatCx3
set_option linter.unusedSimpArgs false
set_option linter.unusedVariables false
namespace Go.Own
open Go.Proofs.YgcsalGreat
/-- Values of a chain that do not change in a run. -/
structure XEnv where
  vz : Value
  lim : Value
  gv : Value
  pr : Value
  tv : Value
  md : Value
  ma : List Nat
def chN (E : XEnv) (wz fr rt : Value) : Array Value := (chL [E.vz, wz, nilS, nilS, nilS, nilS, E.md, nilS, nilS, fr, rt, .int .u8 1, .int .u8 0, .int .u8 1, E.lim, E.gv, nilS, E.pr, E.tv] (ad 240) E.ma).toArray
/-- The chain in a run: its frames' cell, what came back last, the warm accounts. -/
def ChY (w : World) (c : Nat) (E : XEnv) (fr rt : Value) (la : List (List Nat)) : Prop := ∃ wz, w.heap[c]? = some (.cells (chN E wz fr rt) 119 (0, 0)) ∧ AdsV w wz la
theorem chN_get (E : XEnv) (wz fr rt : Value) {i : Nat} (h : i < 19) : (chN E wz fr rt)[i]? = ([E.vz, wz, nilS, nilS, nilS, nilS, E.md, nilS, nilS, fr, rt, .int .u8 1, .int .u8 0, .int .u8 1, E.lim, E.gv, nilS, E.pr, E.tv] : List Value)[i]? := by
  unfold chN chL
  rw [List.getElem?_toArray, List.getElem?_append_left (by simpa using h)]
theorem chN_orig (E : XEnv) (wz fr rt : Value) : ∀ i x, (ad 240)[i]? = some x → (chN E wz fr rt)[19 + i]? = some (n8 x) := by
  intro i x hx
  have hl : i < 20 := by
    have := (List.getElem?_eq_some_iff.1 hx).1
    simpa [ad] using this
  unfold chN chL
  rw [List.getElem?_toArray, List.getElem?_append_right (by simp), List.getElem?_append_left (by simp [ad]; omega)]
  simp only [List.length_cons, List.length_nil, Nat.zero_add, Nat.reduceAdd, Nat.add_sub_cancel_left]
  rw [List.getElem?_map, hx]
  rfl
theorem smallAd240 : Small (ad 240) := by
  intro x hx
  simp [ad] at hx
  omega
theorem chy_nb (E : XEnv) (wz fr rt : Value) : ∀ t l, Obj.cells (chN E wz fr rt) 119 (0, 0) ≠ R8 t l := not_bytes_at (i := 4) (p := none) (n := 0) (m := 0) (by rw [chN_get _ _ _ _ (by decide)]; rfl)
theorem ChY.kept {w w' : World} {c : Nat} {E : XEnv} {fr rt : Value} {la : List (List Nat)} (h : ChY w c E fr rt la) (k : Kept [] w w') : ChY w' c E fr rt la := by
  obtain ⟨wz, h1, h2⟩ := h
  exact ⟨wz, k.row h1 (by simp), h2.kept k⟩
theorem ChY.frame {w w' : World} {c fb : Nat} {E : XEnv} {fr rt : Value} {la : List (List Nat)} {fs : Array Value} (h : ChY w c E fr rt la) (k : Kept [fb] w w') (hr : w.heap[fb]? = some (.cells fs 142 (0, 0))) : ChY w' c E fr rt la := by
  obtain ⟨wz, h1, h2⟩ := h
  exact ⟨wz, k.row h1 (row_ne hr h1 (by rintro h; cases h)), h2.keptC k hr (by decide)⟩
theorem ChY.bytes {w w' : World} {c mb t : Nat} {E : XEnv} {fr rt : Value} {la : List (List Nat)} {l : List Nat} (h : ChY w c E fr rt la) (k : Kept [mb] w w') (hr : w.heap[mb]? = some (R8 t l)) (ht : t ≠ 119 ∧ t ≠ 45) : ChY w' c E fr rt la := by
  obtain ⟨wz, h1, h2⟩ := h
  have hr' : w.heap[mb]? = some (.cells (l.map n8).toArray t (0, 0)) := hr
  exact ⟨wz, k.row h1 (row_ne hr' h1 (fun e => chy_nb E wz fr rt t l e)), h2.keptC k hr' ht.2⟩
theorem ChY.row {w : World} {c : Nat} {E : XEnv} {fr rt : Value} {la : List (List Nat)} (h : ChY w c E fr rt la) : ∃ cs, w.heap[c]? = some (.cells cs 119 (0, 0)) ∧ cs[9]? = some fr ∧ cs[10]? = some rt ∧ cs[11]? = some (.int .u8 1) ∧ ∀ t l, Obj.cells cs 119 (0, 0) ≠ R8 t l := by
  obtain ⟨wz, h1, _⟩ := h
  exact ⟨_, h1, by rw [chN_get _ _ _ _ (by decide)]; rfl, by rw [chN_get _ _ _ _ (by decide)]; rfl, by rw [chN_get _ _ _ _ (by decide)]; rfl, chy_nb _ _ _ _⟩
/-- The state between two steps. -/
structure StY (wB : World) (c fbB : Nat) (E : XEnv) (S : List Nat) (rr fb q n cap : Nat) (fs0 : Array Value) (m G : Nat) (ns : List Nat) (mv : Value) (mem : List Nat) (W : Nat) (rt : Value) (rd : List Nat) (la : List (List Nat)) (w : World) : Prop where
  k : Kept [c, fbB] wB w
  b : fb = fbB ∨ wB.heap.size ≤ fb
  ch : ChY w c E (.slice (some ⟨fb, 0, none⟩) n cap) rt la
  fr : FrameM S rr w fb q fs0 m G ns mv
  mm : MemX wB w S mv mem
  sm : Small mem
  len : mem.length = 32 * W
  wle : W ≤ 20
  rt : NatS S w rt rd
  sl : ∀ b ∈ S, b < w.heap.size
/-- The same, wherever the memory lies. -/
def StF (wB : World) (c fbB : Nat) (E : XEnv) (rr fb q n cap : Nat) (fs0 : Array Value) (m G : Nat) (ns : List Nat) (mem : List Nat) (W : Nat) (rt : Value) (rd : List Nat) (la : List (List Nat)) (w : World) : Prop := ∃ S mv, StY wB c fbB E S rr fb q n cap fs0 m G ns mv mem W rt rd la w
section
variable {wB : World} {c fbB : Nat} {E : XEnv} {S : List Nat} {rr fb q n cap : Nat} {fs0 : Array Value} {m G : Nat} {ns : List Nat} {mv : Value} {mem : List Nat} {W : Nat} {rt : Value} {rd : List Nat} {la : List (List Nat)} {w w' : World}
/-- Only the frame's row was written. -/
theorem StY.frame {rr' m' G' : Nat} {ns' : List Nat} (h : StY wB c fbB E S rr fb q n cap fs0 m G ns mv mem W rt rd la w) (K : Kept [fb] w w') (hF : FrameM S rr' w' fb q fs0 m' G' ns' mv) : StY wB c fbB E S rr' fb q n cap fs0 m' G' ns' mv mem W rt rd la w' := by
  obtain ⟨fs, f1, _, _, _, fn⟩ := h.fr.row
  exact ⟨h.k.since K h.b, h.b, h.ch.frame K f1, hF, h.mm.keptC K f1 fn, h.sm, h.len, h.wle, h.rt.keptC K f1 fn, fun b hb => Nat.lt_of_lt_of_le (h.sl b hb) K.size⟩
theorem StY.kept (h : StY wB c fbB E S rr fb q n cap fs0 m G ns mv mem W rt rd la w) (K : Kept [] w w') : StY wB c fbB E S rr fb q n cap fs0 m G ns mv mem W rt rd la w' := h.frame (K.mono (by simp)) (h.fr.kept K)
end
end Go.Own
namespace Go.Proofs.YgcsalGreat
open Go.RowKit Go.Own
theorem stepY_push01 {wB : World} {c fbB : Nat} {E : XEnv} {rr fb cap : Nat} {fs0 : Array Value} {m G : Nat} {ns : List Nat} {mem : List Nat} {W : Nat} {rt : Value} {rd : List Nat} {la : List (List Nat)} {w : World} {cv : Value} {ds : List Nat} {sb : Bool} (V : Nat) (r2 : Nat) (hE : StF wB c fbB E rr fb 0 1 cap fs0 m G ns mem W rt rd la w) (hH : Hard [c, fbB] wB) (hcv : NatV wB cv ds) (hfc : FrB fs0 0 sb cv) (hm : ds[m]? = some 95) (hl : ds.length ≤ 1000) (hns : ns.length ≤ 20) (hm1 : m ≤ 900) (hkG : 2 ≤ G) (hG : G ≤ 1000000) (hr2 : r2 ≤ rr) (hr3 : r2 ≤ ns.length) (hV : be (cutB ds (m + 1) 0) = V) :
    Calls Salg.prog 27 #[.pointer (some ⟨c, 0, none⟩)] w fun e w' => e = .returned (.bool true) ∧ StF wB c fbB E r2 fb 0 1 cap fs0 (m + (1 + 0)) (G - 2) (ns ++ [V]) mem W rt rd la w' := by
  obtain ⟨S, mv, hS⟩ := hE
  obtain ⟨cs, c1, c9, c10, c11, cn⟩ := hS.ch.row
  obtain ⟨mp, mc, em⟩ := hS.mm.cell
  have hG2 : G < 256 ^ 100 := Nat.lt_of_le_of_lt hG (by decide)
  have hcw := hcv.keptN hS.k hH
  have hwle := hS.wle
  refine stepB_plain1 S rr c fb m G 2 0 2 0 0 0 95 cs fs0 cap _ cv mv ds (fun w' => FrameM S rr w' fb 0 fs0 m (G - 2) ns mv) _ (fun _ _ => True) w (by decide) c1 c9 c11 hS.sl hS.fr hcw hm hl sb hfc hkG (Nat.lt_of_lt_of_le hG2 (by decide)) ?_ ?_ ?_ family_push0 (by decide) ?_
  · intro w' K1
    have hF := hS.fr.kept K1
    refine refusalB_push0 _ fb 0 m G 2 fs0 cv _ _ w' hF.toQ sb hfc (by simp) (by (try simp); omega) hkG fun w1 K2 => ?_
    obtain ⟨fs, f1, _, _, f9, _⟩ := (hF.kept K2).row
    rw [em] at f9
    refine costM_no _ fb 0 95 2 0 mem.length W fs mp mc w1 f1 f9 (by decide) hS.len (by omega) (by decide) (Nat.zero_le _) (fun w2 K3 => ?_) (fun w2 K3 => ?_)
    · exact bareCost_push0 _ _ w2
    · refine (reach_push0 _ w2).mono ?_
      rintro e w3 ⟨rfl, rfl⟩
      exact ⟨_, rfl, nil_num _, Kept.refl _ _⟩
  · intro w' K1 hF
    refine (reach_push0 _ w').mono ?_
    rintro e w3 ⟨rfl, rfl⟩
    exact ⟨_, rfl, nil_num _, Kept.refl _ _⟩
  · intro w' r K1 hF hr
    obtain ⟨fs, f1, _, _, f9, _⟩ := hF.row
    rw [em] at f9
    refine (growM_no fb 0 0 mem.length W fs mp mc r w' f1 f9 hr hS.len (by omega) (by decide) (Nat.zero_le _)).mono ?_
    rintro e w3 ⟨r', rfl, K⟩
    exact ⟨r', rfl, hF.kept K, K.mono (by simp)⟩
  · intro w' K1 hF
    have hS2 := hS.frame K1 hF
    have hcw2 := hcv.keptN hS2.k hH
    refine (plainM_push S rr r2 _ fb 0 m (G - 2) 95 0 2 fs0 cv mv ds ns w' opk_push0 (by decide) (by decide) hS2.sl hF hr2 hr3 hfc.f10 hcw2 (by omega) (by omega) hl).mono ?_
    rintro e w'' ⟨r, rfl, K2, hF2⟩
    rw [hV] at hF2
    exact ⟨r, rfl, S, mv, hS2.frame K2 hF2⟩
theorem stepY_push11 {wB : World} {c fbB : Nat} {E : XEnv} {rr fb cap : Nat} {fs0 : Array Value} {m G : Nat} {ns : List Nat} {mem : List Nat} {W : Nat} {rt : Value} {rd : List Nat} {la : List (List Nat)} {w : World} {cv : Value} {ds : List Nat} {sb : Bool} (V : Nat) (r2 : Nat) (hE : StF wB c fbB E rr fb 0 1 cap fs0 m G ns mem W rt rd la w) (hH : Hard [c, fbB] wB) (hcv : NatV wB cv ds) (hfc : FrB fs0 0 sb cv) (hm : ds[m]? = some 96) (hl : ds.length ≤ 1000) (hns : ns.length ≤ 20) (hm1 : m ≤ 900) (hkG : 3 ≤ G) (hG : G ≤ 1000000) (hr2 : r2 ≤ rr) (hr3 : r2 ≤ ns.length) (hV : be (cutB ds (m + 1) 1) = V) :
    Calls Salg.prog 27 #[.pointer (some ⟨c, 0, none⟩)] w fun e w' => e = .returned (.bool true) ∧ StF wB c fbB E r2 fb 0 1 cap fs0 (m + (1 + 1)) (G - 3) (ns ++ [V]) mem W rt rd la w' := by
  obtain ⟨S, mv, hS⟩ := hE
  obtain ⟨cs, c1, c9, c10, c11, cn⟩ := hS.ch.row
  obtain ⟨mp, mc, em⟩ := hS.mm.cell
  have hG2 : G < 256 ^ 100 := Nat.lt_of_le_of_lt hG (by decide)
  have hcw := hcv.keptN hS.k hH
  have hwle := hS.wle
  refine stepB_plain1 S rr c fb m G 3 0 2 0 0 0 96 cs fs0 cap _ cv mv ds (fun w' => FrameM S rr w' fb 0 fs0 m (G - 3) ns mv) _ (fun _ _ => True) w (by decide) c1 c9 c11 hS.sl hS.fr hcw hm hl sb hfc hkG (Nat.lt_of_lt_of_le hG2 (by decide)) ?_ ?_ ?_ (fun w => family_push 96 w (by decide) (by decide)) (by decide) ?_
  · intro w' K1
    have hF := hS.fr.kept K1
    refine refusalB_push1 _ fb 0 m G 3 fs0 cv _ _ w' hF.toQ sb hfc (by simp) (by (try simp); omega) hkG fun w1 K2 => ?_
    obtain ⟨fs, f1, _, _, f9, _⟩ := (hF.kept K2).row
    rw [em] at f9
    refine costM_no _ fb 0 96 3 0 mem.length W fs mp mc w1 f1 f9 (by decide) hS.len (by omega) (by decide) (Nat.zero_le _) (fun w2 K3 => ?_) (fun w2 K3 => ?_)
    · exact bareCost_push _ _ 96 w2 (by decide) (by decide)
    · refine (reach_push _ 96 w2 (by decide) (by decide)).mono ?_
      rintro e w3 ⟨rfl, rfl⟩
      exact ⟨_, rfl, nil_num _, Kept.refl _ _⟩
  · intro w' K1 hF
    refine (reach_push _ 96 w' (by decide) (by decide)).mono ?_
    rintro e w3 ⟨rfl, rfl⟩
    exact ⟨_, rfl, nil_num _, Kept.refl _ _⟩
  · intro w' r K1 hF hr
    obtain ⟨fs, f1, _, _, f9, _⟩ := hF.row
    rw [em] at f9
    refine (growM_no fb 0 0 mem.length W fs mp mc r w' f1 f9 hr hS.len (by omega) (by decide) (Nat.zero_le _)).mono ?_
    rintro e w3 ⟨r', rfl, K⟩
    exact ⟨r', rfl, hF.kept K, K.mono (by simp)⟩
  · intro w' K1 hF
    have hS2 := hS.frame K1 hF
    have hcw2 := hcv.keptN hS2.k hH
    refine (plainM_push S rr r2 _ fb 0 m (G - 3) 96 1 3 fs0 cv mv ds ns w' (opk_push 96 (by decide) (by decide)) (by decide) (by decide) hS2.sl hF hr2 hr3 hfc.f10 hcw2 (by omega) (by omega) hl).mono ?_
    rintro e w'' ⟨r, rfl, K2, hF2⟩
    rw [hV] at hF2
    exact ⟨r, rfl, S, mv, hS2.frame K2 hF2⟩
theorem stepY_gas1 {wB : World} {c fbB : Nat} {E : XEnv} {rr fb cap : Nat} {fs0 : Array Value} {m G : Nat} {ns : List Nat} {mem : List Nat} {W : Nat} {rt : Value} {rd : List Nat} {la : List (List Nat)} {w : World} {cv : Value} {ds : List Nat} {sb : Bool} (r2 : Nat) (hE : StF wB c fbB E rr fb 0 1 cap fs0 m G ns mem W rt rd la w) (hH : Hard [c, fbB] wB) (hcv : NatV wB cv ds) (hfc : FrB fs0 0 sb cv) (hm : ds[m]? = some 90) (hl : ds.length ≤ 1000) (hns : ns.length ≤ 20) (hm1 : m ≤ 900) (hkG : 2 ≤ G) (hG : G ≤ 1000000) (hr2 : r2 ≤ rr) (hr3 : r2 ≤ ns.length) :
    Calls Salg.prog 27 #[.pointer (some ⟨c, 0, none⟩)] w fun e w' => e = .returned (.bool true) ∧ StF wB c fbB E r2 fb 0 1 cap fs0 (m + 1) (G - 2) (ns ++ [(G - 2)]) mem W rt rd la w' := by
  obtain ⟨S, mv, hS⟩ := hE
  obtain ⟨cs, c1, c9, c10, c11, cn⟩ := hS.ch.row
  obtain ⟨mp, mc, em⟩ := hS.mm.cell
  have hG2 : G < 256 ^ 100 := Nat.lt_of_le_of_lt hG (by decide)
  have hcw := hcv.keptN hS.k hH
  have hwle := hS.wle
  refine stepB_plain1 S rr c fb m G 2 0 4 0 0 0 90 cs fs0 cap _ cv mv ds (fun w' => FrameM S rr w' fb 0 fs0 m (G - 2) ns mv) _ (fun _ _ => True) w (by decide) c1 c9 c11 hS.sl hS.fr hcw hm hl sb hfc hkG (Nat.lt_of_lt_of_le hG2 (by decide)) ?_ ?_ ?_ family_gas (by decide) ?_
  · intro w' K1
    have hF := hS.fr.kept K1
    refine refusalB_gas _ fb 0 m G 2 fs0 cv _ _ w' hF.toQ sb hfc (by simp) (by (try simp); omega) hkG fun w1 K2 => ?_
    obtain ⟨fs, f1, _, _, f9, _⟩ := (hF.kept K2).row
    rw [em] at f9
    refine costM_no _ fb 0 90 2 0 mem.length W fs mp mc w1 f1 f9 (by decide) hS.len (by omega) (by decide) (Nat.zero_le _) (fun w2 K3 => ?_) (fun w2 K3 => ?_)
    · exact bareCost_gas _ _ w2
    · refine (reach_gas _ w2).mono ?_
      rintro e w3 ⟨rfl, rfl⟩
      exact ⟨_, rfl, nil_num _, Kept.refl _ _⟩
  · intro w' K1 hF
    refine (reach_gas _ w').mono ?_
    rintro e w3 ⟨rfl, rfl⟩
    exact ⟨_, rfl, nil_num _, Kept.refl _ _⟩
  · intro w' r K1 hF hr
    obtain ⟨fs, f1, _, _, f9, _⟩ := hF.row
    rw [em] at f9
    refine (growM_no fb 0 0 mem.length W fs mp mc r w' f1 f9 hr hS.len (by omega) (by decide) (Nat.zero_le _)).mono ?_
    rintro e w3 ⟨r', rfl, K⟩
    exact ⟨r', rfl, hF.kept K, K.mono (by simp)⟩
  · intro w' K1 hF
    have hS2 := hS.frame K1 hF
    have hcw2 := hcv.keptN hS2.k hH
    refine (plainM_gas S rr r2 _ fb 0 m (G - 2) 0 0 0 0 (G - 2) fs0 mv ns w' hS2.sl hF (by omega) (by omega) hr2 hr3 fun w1 ab args K2 e1  => ?_).mono ?_
    · have hF1 := hF.kept K2
      have hS3 := hS2.kept K2
      obtain ⟨fs, pv, gv, sv, xs, h1, h0, h2, h3, h4, h5, h6, h7, h8, h9, ha, _⟩ := hF1
      exact valueM_gas _ nilS gv 0 fb 0 ab (G - 2) #[] fs args [] w1 h1 h5 h6.num
    · skip
      rintro e w'' ⟨r, rfl, K2, hF2⟩
      exact ⟨r, rfl, S, mv, hS2.frame K2 hF2⟩
theorem stepY_address1 {wB : World} {c fbB : Nat} {E : XEnv} {rr fb cap : Nat} {fs0 : Array Value} {m G : Nat} {ns : List Nat} {mem : List Nat} {W : Nat} {rt : Value} {rd : List Nat} {la : List (List Nat)} {w : World} {cv : Value} {ds : List Nat} {sb : Bool} (self : List Nat) (r2 : Nat) (hE : StF wB c fbB E rr fb 0 1 cap fs0 m G ns mem W rt rd la w) (hH : Hard [c, fbB] wB) (hcv : NatV wB cv ds) (hfc : FrB fs0 0 sb cv) (hm : ds[m]? = some 48) (hl : ds.length ≤ 1000) (hns : ns.length ≤ 20) (hm1 : m ≤ 900) (hkG : 2 ≤ G) (hG : G ≤ 1000000) (hr2 : r2 ≤ rr) (hr3 : r2 ≤ ns.length) (hself : ∀ i x, self[i]? = some x → fs0[0 + 12 + i]? = some (n8 x)) (hl20 : self.length = 20) (hsm : Small self) :
    Calls Salg.prog 27 #[.pointer (some ⟨c, 0, none⟩)] w fun e w' => e = .returned (.bool true) ∧ StF wB c fbB E r2 fb 0 1 cap fs0 (m + 1) (G - 2) (ns ++ [(be self)]) mem W rt rd la w' := by
  obtain ⟨S, mv, hS⟩ := hE
  obtain ⟨cs, c1, c9, c10, c11, cn⟩ := hS.ch.row
  obtain ⟨mp, mc, em⟩ := hS.mm.cell
  have hG2 : G < 256 ^ 100 := Nat.lt_of_le_of_lt hG (by decide)
  have hcw := hcv.keptN hS.k hH
  have hwle := hS.wle
  refine stepB_plain1 S rr c fb m G 2 0 2 0 0 0 48 cs fs0 cap _ cv mv ds (fun w' => FrameM S rr w' fb 0 fs0 m (G - 2) ns mv) _ (fun _ _ => True) w (by decide) c1 c9 c11 hS.sl hS.fr hcw hm hl sb hfc hkG (Nat.lt_of_lt_of_le hG2 (by decide)) ?_ ?_ ?_ family_address (by decide) ?_
  · intro w' K1
    have hF := hS.fr.kept K1
    refine refusalB_address _ fb 0 m G 2 fs0 cv _ _ w' hF.toQ sb hfc (by simp) (by (try simp); omega) hkG fun w1 K2 => ?_
    obtain ⟨fs, f1, _, _, f9, _⟩ := (hF.kept K2).row
    rw [em] at f9
    refine costM_no _ fb 0 48 2 0 mem.length W fs mp mc w1 f1 f9 (by decide) hS.len (by omega) (by decide) (Nat.zero_le _) (fun w2 K3 => ?_) (fun w2 K3 => ?_)
    · exact bareCost_address _ _ w2
    · refine (reach_address _ w2).mono ?_
      rintro e w3 ⟨rfl, rfl⟩
      exact ⟨_, rfl, nil_num _, Kept.refl _ _⟩
  · intro w' K1 hF
    refine (reach_address _ w').mono ?_
    rintro e w3 ⟨rfl, rfl⟩
    exact ⟨_, rfl, nil_num _, Kept.refl _ _⟩
  · intro w' r K1 hF hr
    obtain ⟨fs, f1, _, _, f9, _⟩ := hF.row
    rw [em] at f9
    refine (growM_no fb 0 0 mem.length W fs mp mc r w' f1 f9 hr hS.len (by omega) (by decide) (Nat.zero_le _)).mono ?_
    rintro e w3 ⟨r', rfl, K⟩
    exact ⟨r', rfl, hF.kept K, K.mono (by simp)⟩
  · intro w' K1 hF
    have hS2 := hS.frame K1 hF
    have hcw2 := hcv.keptN hS2.k hH
    refine (plainM_address S rr r2 _ fb 0 m (G - 2) 0 0 0 0 (be self) fs0 mv ns w' hS2.sl hF (by omega) (by omega) hr2 hr3 fun w1 ab args K2 e1  => ?_).mono ?_
    · have hF1 := hF.kept K2
      have hS3 := hS2.kept K2
      obtain ⟨fs, f1, _, f2, _, _⟩ := hF1.row
      exact valueM_address _ nilS nilS 0 fb 0 ab 0 #[] fs args self w1 f1 (fun i x hx => (f2 (0 + 12 + i) (by omega) (by omega) (by omega) (by omega)).trans (hself i x hx)) hl20 hsm
    · skip
      rintro e w'' ⟨r, rfl, K2, hF2⟩
      exact ⟨r, rfl, S, mv, hS2.frame K2 hF2⟩
theorem stepY_caller1 {wB : World} {c fbB : Nat} {E : XEnv} {rr fb cap : Nat} {fs0 : Array Value} {m G : Nat} {ns : List Nat} {mem : List Nat} {W : Nat} {rt : Value} {rd : List Nat} {la : List (List Nat)} {w : World} {cv : Value} {ds : List Nat} {sb : Bool} (self : List Nat) (r2 : Nat) (hE : StF wB c fbB E rr fb 0 1 cap fs0 m G ns mem W rt rd la w) (hH : Hard [c, fbB] wB) (hcv : NatV wB cv ds) (hfc : FrB fs0 0 sb cv) (hm : ds[m]? = some 51) (hl : ds.length ≤ 1000) (hns : ns.length ≤ 20) (hm1 : m ≤ 900) (hkG : 2 ≤ G) (hG : G ≤ 1000000) (hr2 : r2 ≤ rr) (hr3 : r2 ≤ ns.length) (hself : ∀ i x, self[i]? = some x → fs0[0 + 32 + i]? = some (n8 x)) (hl20 : self.length = 20) (hsm : Small self) :
    Calls Salg.prog 27 #[.pointer (some ⟨c, 0, none⟩)] w fun e w' => e = .returned (.bool true) ∧ StF wB c fbB E r2 fb 0 1 cap fs0 (m + 1) (G - 2) (ns ++ [(be self)]) mem W rt rd la w' := by
  obtain ⟨S, mv, hS⟩ := hE
  obtain ⟨cs, c1, c9, c10, c11, cn⟩ := hS.ch.row
  obtain ⟨mp, mc, em⟩ := hS.mm.cell
  have hG2 : G < 256 ^ 100 := Nat.lt_of_le_of_lt hG (by decide)
  have hcw := hcv.keptN hS.k hH
  have hwle := hS.wle
  refine stepB_plain1 S rr c fb m G 2 0 2 0 0 0 51 cs fs0 cap _ cv mv ds (fun w' => FrameM S rr w' fb 0 fs0 m (G - 2) ns mv) _ (fun _ _ => True) w (by decide) c1 c9 c11 hS.sl hS.fr hcw hm hl sb hfc hkG (Nat.lt_of_lt_of_le hG2 (by decide)) ?_ ?_ ?_ family_caller (by decide) ?_
  · intro w' K1
    have hF := hS.fr.kept K1
    refine refusalB_caller _ fb 0 m G 2 fs0 cv _ _ w' hF.toQ sb hfc (by simp) (by (try simp); omega) hkG fun w1 K2 => ?_
    obtain ⟨fs, f1, _, _, f9, _⟩ := (hF.kept K2).row
    rw [em] at f9
    refine costM_no _ fb 0 51 2 0 mem.length W fs mp mc w1 f1 f9 (by decide) hS.len (by omega) (by decide) (Nat.zero_le _) (fun w2 K3 => ?_) (fun w2 K3 => ?_)
    · exact bareCost_caller _ _ w2
    · refine (reach_caller _ w2).mono ?_
      rintro e w3 ⟨rfl, rfl⟩
      exact ⟨_, rfl, nil_num _, Kept.refl _ _⟩
  · intro w' K1 hF
    refine (reach_caller _ w').mono ?_
    rintro e w3 ⟨rfl, rfl⟩
    exact ⟨_, rfl, nil_num _, Kept.refl _ _⟩
  · intro w' r K1 hF hr
    obtain ⟨fs, f1, _, _, f9, _⟩ := hF.row
    rw [em] at f9
    refine (growM_no fb 0 0 mem.length W fs mp mc r w' f1 f9 hr hS.len (by omega) (by decide) (Nat.zero_le _)).mono ?_
    rintro e w3 ⟨r', rfl, K⟩
    exact ⟨r', rfl, hF.kept K, K.mono (by simp)⟩
  · intro w' K1 hF
    have hS2 := hS.frame K1 hF
    have hcw2 := hcv.keptN hS2.k hH
    refine (plainM_caller S rr r2 _ fb 0 m (G - 2) 0 0 0 0 (be self) fs0 mv ns w' hS2.sl hF (by omega) (by omega) hr2 hr3 fun w1 ab args K2 e1  => ?_).mono ?_
    · have hF1 := hF.kept K2
      have hS3 := hS2.kept K2
      obtain ⟨fs, f1, _, f2, _, _⟩ := hF1.row
      exact valueM_caller _ nilS nilS 0 fb 0 ab 0 #[] fs args self w1 f1 (fun i x hx => (f2 (0 + 32 + i) (by omega) (by omega) (by omega) (by omega)).trans (hself i x hx)) hl20 hsm
    · skip
      rintro e w'' ⟨r, rfl, K2, hF2⟩
      exact ⟨r, rfl, S, mv, hS2.frame K2 hF2⟩
theorem stepY_callvalue1 {wB : World} {c fbB : Nat} {E : XEnv} {rr fb cap : Nat} {fs0 : Array Value} {m G : Nat} {ns : List Nat} {mem : List Nat} {W : Nat} {rt : Value} {rd : List Nat} {la : List (List Nat)} {w : World} {cv : Value} {ds : List Nat} {sb : Bool} (A : Nat) (vv : Value) (r2 : Nat) (hE : StF wB c fbB E rr fb 0 1 cap fs0 m G ns mem W rt rd la w) (hH : Hard [c, fbB] wB) (hcv : NatV wB cv ds) (hfc : FrB fs0 0 sb cv) (hm : ds[m]? = some 52) (hl : ds.length ≤ 1000) (hns : ns.length ≤ 20) (hm1 : m ≤ 900) (hkG : 2 ≤ G) (hG : G ≤ 1000000) (hr2 : r2 ≤ rr) (hr3 : r2 ≤ ns.length) (h5 : fs0[0 + 5]? = some vv) (hvv : NumV wB vv A) :
    Calls Salg.prog 27 #[.pointer (some ⟨c, 0, none⟩)] w fun e w' => e = .returned (.bool true) ∧ StF wB c fbB E r2 fb 0 1 cap fs0 (m + 1) (G - 2) (ns ++ [A]) mem W rt rd la w' := by
  obtain ⟨S, mv, hS⟩ := hE
  obtain ⟨cs, c1, c9, c10, c11, cn⟩ := hS.ch.row
  obtain ⟨mp, mc, em⟩ := hS.mm.cell
  have hG2 : G < 256 ^ 100 := Nat.lt_of_le_of_lt hG (by decide)
  have hcw := hcv.keptN hS.k hH
  have hwle := hS.wle
  refine stepB_plain1 S rr c fb m G 2 0 2 0 0 0 52 cs fs0 cap _ cv mv ds (fun w' => FrameM S rr w' fb 0 fs0 m (G - 2) ns mv) _ (fun _ _ => True) w (by decide) c1 c9 c11 hS.sl hS.fr hcw hm hl sb hfc hkG (Nat.lt_of_lt_of_le hG2 (by decide)) ?_ ?_ ?_ family_callvalue (by decide) ?_
  · intro w' K1
    have hF := hS.fr.kept K1
    refine refusalB_callvalue _ fb 0 m G 2 fs0 cv _ _ w' hF.toQ sb hfc (by simp) (by (try simp); omega) hkG fun w1 K2 => ?_
    obtain ⟨fs, f1, _, _, f9, _⟩ := (hF.kept K2).row
    rw [em] at f9
    refine costM_no _ fb 0 52 2 0 mem.length W fs mp mc w1 f1 f9 (by decide) hS.len (by omega) (by decide) (Nat.zero_le _) (fun w2 K3 => ?_) (fun w2 K3 => ?_)
    · exact bareCost_callvalue _ _ w2
    · refine (reach_callvalue _ w2).mono ?_
      rintro e w3 ⟨rfl, rfl⟩
      exact ⟨_, rfl, nil_num _, Kept.refl _ _⟩
  · intro w' K1 hF
    refine (reach_callvalue _ w').mono ?_
    rintro e w3 ⟨rfl, rfl⟩
    exact ⟨_, rfl, nil_num _, Kept.refl _ _⟩
  · intro w' r K1 hF hr
    obtain ⟨fs, f1, _, _, f9, _⟩ := hF.row
    rw [em] at f9
    refine (growM_no fb 0 0 mem.length W fs mp mc r w' f1 f9 hr hS.len (by omega) (by decide) (Nat.zero_le _)).mono ?_
    rintro e w3 ⟨r', rfl, K⟩
    exact ⟨r', rfl, hF.kept K, K.mono (by simp)⟩
  · intro w' K1 hF
    have hS2 := hS.frame K1 hF
    have hcw2 := hcv.keptN hS2.k hH
    refine (plainM_callvalue S rr r2 _ fb 0 m (G - 2) 0 0 0 0 A fs0 mv ns w' hS2.sl hF (by omega) (by omega) hr2 hr3 fun w1 ab args K2 e1  => ?_).mono ?_
    · have hF1 := hF.kept K2
      have hS3 := hS2.kept K2
      obtain ⟨fs, f1, _, f2, _, _⟩ := hF1.row
      exact valueM_callvalue _ nilS vv 0 fb 0 ab A #[] fs args [] w1 f1 ((f2 (0 + 5) (by omega) (by omega) (by omega) (by omega)).trans h5) (hvv.keptN hS3.k hH)
    · skip
      rintro e w'' ⟨r, rfl, K2, hF2⟩
      exact ⟨r, rfl, S, mv, hS2.frame K2 hF2⟩
theorem stepY_origin1 {wB : World} {c fbB : Nat} {E : XEnv} {rr fb cap : Nat} {fs0 : Array Value} {m G : Nat} {ns : List Nat} {mem : List Nat} {W : Nat} {rt : Value} {rd : List Nat} {la : List (List Nat)} {w : World} {cv : Value} {ds : List Nat} {sb : Bool} (r2 : Nat) (hE : StF wB c fbB E rr fb 0 1 cap fs0 m G ns mem W rt rd la w) (hH : Hard [c, fbB] wB) (hcv : NatV wB cv ds) (hfc : FrB fs0 0 sb cv) (hm : ds[m]? = some 50) (hl : ds.length ≤ 1000) (hns : ns.length ≤ 20) (hm1 : m ≤ 900) (hkG : 2 ≤ G) (hG : G ≤ 1000000) (hr2 : r2 ≤ rr) (hr3 : r2 ≤ ns.length) :
    Calls Salg.prog 27 #[.pointer (some ⟨c, 0, none⟩)] w fun e w' => e = .returned (.bool true) ∧ StF wB c fbB E r2 fb 0 1 cap fs0 (m + 1) (G - 2) (ns ++ [(be (ad 240))]) mem W rt rd la w' := by
  obtain ⟨S, mv, hS⟩ := hE
  obtain ⟨cs, c1, c9, c10, c11, cn⟩ := hS.ch.row
  obtain ⟨mp, mc, em⟩ := hS.mm.cell
  have hG2 : G < 256 ^ 100 := Nat.lt_of_le_of_lt hG (by decide)
  have hcw := hcv.keptN hS.k hH
  have hwle := hS.wle
  refine stepB_plain1 S rr c fb m G 2 0 2 0 0 0 50 cs fs0 cap _ cv mv ds (fun w' => FrameM S rr w' fb 0 fs0 m (G - 2) ns mv) _ (fun _ _ => True) w (by decide) c1 c9 c11 hS.sl hS.fr hcw hm hl sb hfc hkG (Nat.lt_of_lt_of_le hG2 (by decide)) ?_ ?_ ?_ family_origin (by decide) ?_
  · intro w' K1
    have hF := hS.fr.kept K1
    refine refusalB_origin _ fb 0 m G 2 fs0 cv _ _ w' hF.toQ sb hfc (by simp) (by (try simp); omega) hkG fun w1 K2 => ?_
    obtain ⟨fs, f1, _, _, f9, _⟩ := (hF.kept K2).row
    rw [em] at f9
    refine costM_no _ fb 0 50 2 0 mem.length W fs mp mc w1 f1 f9 (by decide) hS.len (by omega) (by decide) (Nat.zero_le _) (fun w2 K3 => ?_) (fun w2 K3 => ?_)
    · exact bareCost_origin _ _ w2
    · refine (reach_origin _ w2).mono ?_
      rintro e w3 ⟨rfl, rfl⟩
      exact ⟨_, rfl, nil_num _, Kept.refl _ _⟩
  · intro w' K1 hF
    refine (reach_origin _ w').mono ?_
    rintro e w3 ⟨rfl, rfl⟩
    exact ⟨_, rfl, nil_num _, Kept.refl _ _⟩
  · intro w' r K1 hF hr
    obtain ⟨fs, f1, _, _, f9, _⟩ := hF.row
    rw [em] at f9
    refine (growM_no fb 0 0 mem.length W fs mp mc r w' f1 f9 hr hS.len (by omega) (by decide) (Nat.zero_le _)).mono ?_
    rintro e w3 ⟨r', rfl, K⟩
    exact ⟨r', rfl, hF.kept K, K.mono (by simp)⟩
  · intro w' K1 hF
    have hS2 := hS.frame K1 hF
    have hcw2 := hcv.keptN hS2.k hH
    refine (plainM_origin S rr r2 _ fb 0 m (G - 2) 0 0 0 0 (be (ad 240)) fs0 mv ns w' hS2.sl hF (by omega) (by omega) hr2 hr3 fun w1 ab args K2 e1  => ?_).mono ?_
    · have hF1 := hF.kept K2
      have hS3 := hS2.kept K2
      obtain ⟨fs, f1, _, f2, _, _⟩ := hF1.row
      obtain ⟨wz, k1, _⟩ := hS3.ch
      exact valueM_origin nilS nilS nilS c fb 0 ab 0 _ fs args (ad 240) w1 f1 k1 (chN_orig _ _ _ _) rfl smallAd240
    · skip
      rintro e w'' ⟨r, rfl, K2, hF2⟩
      exact ⟨r, rfl, S, mv, hS2.frame K2 hF2⟩
theorem stepY_returndatasize1 {wB : World} {c fbB : Nat} {E : XEnv} {rr fb cap : Nat} {fs0 : Array Value} {m G : Nat} {ns : List Nat} {mem : List Nat} {W : Nat} {rt : Value} {rd : List Nat} {la : List (List Nat)} {w : World} {cv : Value} {ds : List Nat} {sb : Bool} (r2 : Nat) (hE : StF wB c fbB E rr fb 0 1 cap fs0 m G ns mem W rt rd la w) (hH : Hard [c, fbB] wB) (hcv : NatV wB cv ds) (hfc : FrB fs0 0 sb cv) (hm : ds[m]? = some 61) (hl : ds.length ≤ 1000) (hns : ns.length ≤ 20) (hm1 : m ≤ 900) (hkG : 2 ≤ G) (hG : G ≤ 1000000) (hr2 : r2 ≤ rr) (hr3 : r2 ≤ ns.length) (hrd : rd.length ≤ 100000) :
    Calls Salg.prog 27 #[.pointer (some ⟨c, 0, none⟩)] w fun e w' => e = .returned (.bool true) ∧ StF wB c fbB E r2 fb 0 1 cap fs0 (m + 1) (G - 2) (ns ++ [rd.length]) mem W rt rd la w' := by
  obtain ⟨S, mv, hS⟩ := hE
  obtain ⟨cs, c1, c9, c10, c11, cn⟩ := hS.ch.row
  obtain ⟨mp, mc, em⟩ := hS.mm.cell
  have hG2 : G < 256 ^ 100 := Nat.lt_of_le_of_lt hG (by decide)
  have hcw := hcv.keptN hS.k hH
  have hwle := hS.wle
  refine stepB_plain1 S rr c fb m G 2 0 2 0 0 0 61 cs fs0 cap _ cv mv ds (fun w' => FrameM S rr w' fb 0 fs0 m (G - 2) ns mv) _ (fun _ _ => True) w (by decide) c1 c9 c11 hS.sl hS.fr hcw hm hl sb hfc hkG (Nat.lt_of_lt_of_le hG2 (by decide)) ?_ ?_ ?_ family_returndatasize (by decide) ?_
  · intro w' K1
    have hF := hS.fr.kept K1
    refine refusalB_returndatasize _ fb 0 m G 2 fs0 cv _ _ w' hF.toQ sb hfc (by simp) (by (try simp); omega) hkG fun w1 K2 => ?_
    obtain ⟨fs, f1, _, _, f9, _⟩ := (hF.kept K2).row
    rw [em] at f9
    refine costM_no _ fb 0 61 2 0 mem.length W fs mp mc w1 f1 f9 (by decide) hS.len (by omega) (by decide) (Nat.zero_le _) (fun w2 K3 => ?_) (fun w2 K3 => ?_)
    · exact bareCost_returndatasize _ _ w2
    · refine (reach_returndatasize _ w2).mono ?_
      rintro e w3 ⟨rfl, rfl⟩
      exact ⟨_, rfl, nil_num _, Kept.refl _ _⟩
  · intro w' K1 hF
    refine (reach_returndatasize _ w').mono ?_
    rintro e w3 ⟨rfl, rfl⟩
    exact ⟨_, rfl, nil_num _, Kept.refl _ _⟩
  · intro w' r K1 hF hr
    obtain ⟨fs, f1, _, _, f9, _⟩ := hF.row
    rw [em] at f9
    refine (growM_no fb 0 0 mem.length W fs mp mc r w' f1 f9 hr hS.len (by omega) (by decide) (Nat.zero_le _)).mono ?_
    rintro e w3 ⟨r', rfl, K⟩
    exact ⟨r', rfl, hF.kept K, K.mono (by simp)⟩
  · intro w' K1 hF
    have hS2 := hS.frame K1 hF
    have hcw2 := hcv.keptN hS2.k hH
    refine (plainM_returndatasize S rr r2 _ fb 0 m (G - 2) 0 0 0 0 rd.length fs0 mv ns w' hS2.sl hF (by omega) (by omega) hr2 hr3 fun w1 ab args K2 e1  => ?_).mono ?_
    · have hF1 := hF.kept K2
      have hS3 := hS2.kept K2
      obtain ⟨fs, f1, _, f2, _, _⟩ := hF1.row
      obtain ⟨cs1, k1, _, k10, _, _⟩ := hS3.ch.row
      obtain ⟨rp, rc, er, _⟩ := hS3.rt.1
      rw [er] at k10
      exact valueM_returndatasize nilS nilS nilS rp rc c fb 0 ab rd.length cs1 fs args [] w1 f1 k1 k10 hrd
    · skip
      rintro e w'' ⟨r, rfl, K2, hF2⟩
      exact ⟨r, rfl, S, mv, hS2.frame K2 hF2⟩
theorem stepY_push02 {wB : World} {c fbB : Nat} {E : XEnv} {rr fb cap : Nat} {fs0 : Array Value} {m G : Nat} {ns : List Nat} {mem : List Nat} {W : Nat} {rt : Value} {rd : List Nat} {la : List (List Nat)} {w : World} {cv : Value} {ds : List Nat} {sb : Bool} (V : Nat) (r2 : Nat) (hE : StF wB c fbB E rr fb 60 2 cap fs0 m G ns mem W rt rd la w) (hH : Hard [c, fbB] wB) (hcv : NatV wB cv ds) (hfc : FrB fs0 60 sb cv) (hm : ds[m]? = some 95) (hl : ds.length ≤ 1000) (hns : ns.length ≤ 20) (hm1 : m ≤ 900) (hkG : 2 ≤ G) (hG : G ≤ 1000000) (hr2 : r2 ≤ rr) (hr3 : r2 ≤ ns.length) (hV : be (cutB ds (m + 1) 0) = V) :
    Calls Salg.prog 27 #[.pointer (some ⟨c, 0, none⟩)] w fun e w' => e = .returned (.bool true) ∧ StF wB c fbB E r2 fb 60 2 cap fs0 (m + (1 + 0)) (G - 2) (ns ++ [V]) mem W rt rd la w' := by
  obtain ⟨S, mv, hS⟩ := hE
  obtain ⟨cs, c1, c9, c10, c11, cn⟩ := hS.ch.row
  obtain ⟨mp, mc, em⟩ := hS.mm.cell
  have hG2 : G < 256 ^ 100 := Nat.lt_of_le_of_lt hG (by decide)
  have hcw := hcv.keptN hS.k hH
  have hwle := hS.wle
  refine stepB_plain2 S rr c fb m G 2 0 2 0 0 0 95 cs fs0 cap _ cv mv ds (fun w' => FrameM S rr w' fb 60 fs0 m (G - 2) ns mv) _ (fun _ _ => True) w (by decide) c1 c9 c11 hS.sl hS.fr hcw hm hl sb hfc hkG (Nat.lt_of_lt_of_le hG2 (by decide)) ?_ ?_ ?_ family_push0 (by decide) ?_
  · intro w' K1
    have hF := hS.fr.kept K1
    refine refusalB_push0 _ fb 60 m G 2 fs0 cv _ _ w' hF.toQ sb hfc (by simp) (by (try simp); omega) hkG fun w1 K2 => ?_
    obtain ⟨fs, f1, _, _, f9, _⟩ := (hF.kept K2).row
    rw [em] at f9
    refine costM_no _ fb 60 95 2 0 mem.length W fs mp mc w1 f1 f9 (by decide) hS.len (by omega) (by decide) (Nat.zero_le _) (fun w2 K3 => ?_) (fun w2 K3 => ?_)
    · exact bareCost_push0 _ _ w2
    · refine (reach_push0 _ w2).mono ?_
      rintro e w3 ⟨rfl, rfl⟩
      exact ⟨_, rfl, nil_num _, Kept.refl _ _⟩
  · intro w' K1 hF
    refine (reach_push0 _ w').mono ?_
    rintro e w3 ⟨rfl, rfl⟩
    exact ⟨_, rfl, nil_num _, Kept.refl _ _⟩
  · intro w' r K1 hF hr
    obtain ⟨fs, f1, _, _, f9, _⟩ := hF.row
    rw [em] at f9
    refine (growM_no fb 60 0 mem.length W fs mp mc r w' f1 f9 hr hS.len (by omega) (by decide) (Nat.zero_le _)).mono ?_
    rintro e w3 ⟨r', rfl, K⟩
    exact ⟨r', rfl, hF.kept K, K.mono (by simp)⟩
  · intro w' K1 hF
    have hS2 := hS.frame K1 hF
    have hcw2 := hcv.keptN hS2.k hH
    refine (plainM_push S rr r2 _ fb 60 m (G - 2) 95 0 2 fs0 cv mv ds ns w' opk_push0 (by decide) (by decide) hS2.sl hF hr2 hr3 hfc.f10 hcw2 (by omega) (by omega) hl).mono ?_
    rintro e w'' ⟨r, rfl, K2, hF2⟩
    rw [hV] at hF2
    exact ⟨r, rfl, S, mv, hS2.frame K2 hF2⟩
theorem stepY_push12 {wB : World} {c fbB : Nat} {E : XEnv} {rr fb cap : Nat} {fs0 : Array Value} {m G : Nat} {ns : List Nat} {mem : List Nat} {W : Nat} {rt : Value} {rd : List Nat} {la : List (List Nat)} {w : World} {cv : Value} {ds : List Nat} {sb : Bool} (V : Nat) (r2 : Nat) (hE : StF wB c fbB E rr fb 60 2 cap fs0 m G ns mem W rt rd la w) (hH : Hard [c, fbB] wB) (hcv : NatV wB cv ds) (hfc : FrB fs0 60 sb cv) (hm : ds[m]? = some 96) (hl : ds.length ≤ 1000) (hns : ns.length ≤ 20) (hm1 : m ≤ 900) (hkG : 3 ≤ G) (hG : G ≤ 1000000) (hr2 : r2 ≤ rr) (hr3 : r2 ≤ ns.length) (hV : be (cutB ds (m + 1) 1) = V) :
    Calls Salg.prog 27 #[.pointer (some ⟨c, 0, none⟩)] w fun e w' => e = .returned (.bool true) ∧ StF wB c fbB E r2 fb 60 2 cap fs0 (m + (1 + 1)) (G - 3) (ns ++ [V]) mem W rt rd la w' := by
  obtain ⟨S, mv, hS⟩ := hE
  obtain ⟨cs, c1, c9, c10, c11, cn⟩ := hS.ch.row
  obtain ⟨mp, mc, em⟩ := hS.mm.cell
  have hG2 : G < 256 ^ 100 := Nat.lt_of_le_of_lt hG (by decide)
  have hcw := hcv.keptN hS.k hH
  have hwle := hS.wle
  refine stepB_plain2 S rr c fb m G 3 0 2 0 0 0 96 cs fs0 cap _ cv mv ds (fun w' => FrameM S rr w' fb 60 fs0 m (G - 3) ns mv) _ (fun _ _ => True) w (by decide) c1 c9 c11 hS.sl hS.fr hcw hm hl sb hfc hkG (Nat.lt_of_lt_of_le hG2 (by decide)) ?_ ?_ ?_ (fun w => family_push 96 w (by decide) (by decide)) (by decide) ?_
  · intro w' K1
    have hF := hS.fr.kept K1
    refine refusalB_push1 _ fb 60 m G 3 fs0 cv _ _ w' hF.toQ sb hfc (by simp) (by (try simp); omega) hkG fun w1 K2 => ?_
    obtain ⟨fs, f1, _, _, f9, _⟩ := (hF.kept K2).row
    rw [em] at f9
    refine costM_no _ fb 60 96 3 0 mem.length W fs mp mc w1 f1 f9 (by decide) hS.len (by omega) (by decide) (Nat.zero_le _) (fun w2 K3 => ?_) (fun w2 K3 => ?_)
    · exact bareCost_push _ _ 96 w2 (by decide) (by decide)
    · refine (reach_push _ 96 w2 (by decide) (by decide)).mono ?_
      rintro e w3 ⟨rfl, rfl⟩
      exact ⟨_, rfl, nil_num _, Kept.refl _ _⟩
  · intro w' K1 hF
    refine (reach_push _ 96 w' (by decide) (by decide)).mono ?_
    rintro e w3 ⟨rfl, rfl⟩
    exact ⟨_, rfl, nil_num _, Kept.refl _ _⟩
  · intro w' r K1 hF hr
    obtain ⟨fs, f1, _, _, f9, _⟩ := hF.row
    rw [em] at f9
    refine (growM_no fb 60 0 mem.length W fs mp mc r w' f1 f9 hr hS.len (by omega) (by decide) (Nat.zero_le _)).mono ?_
    rintro e w3 ⟨r', rfl, K⟩
    exact ⟨r', rfl, hF.kept K, K.mono (by simp)⟩
  · intro w' K1 hF
    have hS2 := hS.frame K1 hF
    have hcw2 := hcv.keptN hS2.k hH
    refine (plainM_push S rr r2 _ fb 60 m (G - 3) 96 1 3 fs0 cv mv ds ns w' (opk_push 96 (by decide) (by decide)) (by decide) (by decide) hS2.sl hF hr2 hr3 hfc.f10 hcw2 (by omega) (by omega) hl).mono ?_
    rintro e w'' ⟨r, rfl, K2, hF2⟩
    rw [hV] at hF2
    exact ⟨r, rfl, S, mv, hS2.frame K2 hF2⟩
theorem stepY_gas2 {wB : World} {c fbB : Nat} {E : XEnv} {rr fb cap : Nat} {fs0 : Array Value} {m G : Nat} {ns : List Nat} {mem : List Nat} {W : Nat} {rt : Value} {rd : List Nat} {la : List (List Nat)} {w : World} {cv : Value} {ds : List Nat} {sb : Bool} (r2 : Nat) (hE : StF wB c fbB E rr fb 60 2 cap fs0 m G ns mem W rt rd la w) (hH : Hard [c, fbB] wB) (hcv : NatV wB cv ds) (hfc : FrB fs0 60 sb cv) (hm : ds[m]? = some 90) (hl : ds.length ≤ 1000) (hns : ns.length ≤ 20) (hm1 : m ≤ 900) (hkG : 2 ≤ G) (hG : G ≤ 1000000) (hr2 : r2 ≤ rr) (hr3 : r2 ≤ ns.length) :
    Calls Salg.prog 27 #[.pointer (some ⟨c, 0, none⟩)] w fun e w' => e = .returned (.bool true) ∧ StF wB c fbB E r2 fb 60 2 cap fs0 (m + 1) (G - 2) (ns ++ [(G - 2)]) mem W rt rd la w' := by
  obtain ⟨S, mv, hS⟩ := hE
  obtain ⟨cs, c1, c9, c10, c11, cn⟩ := hS.ch.row
  obtain ⟨mp, mc, em⟩ := hS.mm.cell
  have hG2 : G < 256 ^ 100 := Nat.lt_of_le_of_lt hG (by decide)
  have hcw := hcv.keptN hS.k hH
  have hwle := hS.wle
  refine stepB_plain2 S rr c fb m G 2 0 4 0 0 0 90 cs fs0 cap _ cv mv ds (fun w' => FrameM S rr w' fb 60 fs0 m (G - 2) ns mv) _ (fun _ _ => True) w (by decide) c1 c9 c11 hS.sl hS.fr hcw hm hl sb hfc hkG (Nat.lt_of_lt_of_le hG2 (by decide)) ?_ ?_ ?_ family_gas (by decide) ?_
  · intro w' K1
    have hF := hS.fr.kept K1
    refine refusalB_gas _ fb 60 m G 2 fs0 cv _ _ w' hF.toQ sb hfc (by simp) (by (try simp); omega) hkG fun w1 K2 => ?_
    obtain ⟨fs, f1, _, _, f9, _⟩ := (hF.kept K2).row
    rw [em] at f9
    refine costM_no _ fb 60 90 2 0 mem.length W fs mp mc w1 f1 f9 (by decide) hS.len (by omega) (by decide) (Nat.zero_le _) (fun w2 K3 => ?_) (fun w2 K3 => ?_)
    · exact bareCost_gas _ _ w2
    · refine (reach_gas _ w2).mono ?_
      rintro e w3 ⟨rfl, rfl⟩
      exact ⟨_, rfl, nil_num _, Kept.refl _ _⟩
  · intro w' K1 hF
    refine (reach_gas _ w').mono ?_
    rintro e w3 ⟨rfl, rfl⟩
    exact ⟨_, rfl, nil_num _, Kept.refl _ _⟩
  · intro w' r K1 hF hr
    obtain ⟨fs, f1, _, _, f9, _⟩ := hF.row
    rw [em] at f9
    refine (growM_no fb 60 0 mem.length W fs mp mc r w' f1 f9 hr hS.len (by omega) (by decide) (Nat.zero_le _)).mono ?_
    rintro e w3 ⟨r', rfl, K⟩
    exact ⟨r', rfl, hF.kept K, K.mono (by simp)⟩
  · intro w' K1 hF
    have hS2 := hS.frame K1 hF
    have hcw2 := hcv.keptN hS2.k hH
    refine (plainM_gas S rr r2 _ fb 60 m (G - 2) 0 0 0 0 (G - 2) fs0 mv ns w' hS2.sl hF (by omega) (by omega) hr2 hr3 fun w1 ab args K2 e1  => ?_).mono ?_
    · have hF1 := hF.kept K2
      have hS3 := hS2.kept K2
      obtain ⟨fs, pv, gv, sv, xs, h1, h0, h2, h3, h4, h5, h6, h7, h8, h9, ha, _⟩ := hF1
      exact valueM_gas _ nilS gv 0 fb 60 ab (G - 2) #[] fs args [] w1 h1 h5 h6.num
    · skip
      rintro e w'' ⟨r, rfl, K2, hF2⟩
      exact ⟨r, rfl, S, mv, hS2.frame K2 hF2⟩
theorem stepY_address2 {wB : World} {c fbB : Nat} {E : XEnv} {rr fb cap : Nat} {fs0 : Array Value} {m G : Nat} {ns : List Nat} {mem : List Nat} {W : Nat} {rt : Value} {rd : List Nat} {la : List (List Nat)} {w : World} {cv : Value} {ds : List Nat} {sb : Bool} (self : List Nat) (r2 : Nat) (hE : StF wB c fbB E rr fb 60 2 cap fs0 m G ns mem W rt rd la w) (hH : Hard [c, fbB] wB) (hcv : NatV wB cv ds) (hfc : FrB fs0 60 sb cv) (hm : ds[m]? = some 48) (hl : ds.length ≤ 1000) (hns : ns.length ≤ 20) (hm1 : m ≤ 900) (hkG : 2 ≤ G) (hG : G ≤ 1000000) (hr2 : r2 ≤ rr) (hr3 : r2 ≤ ns.length) (hself : ∀ i x, self[i]? = some x → fs0[60 + 12 + i]? = some (n8 x)) (hl20 : self.length = 20) (hsm : Small self) :
    Calls Salg.prog 27 #[.pointer (some ⟨c, 0, none⟩)] w fun e w' => e = .returned (.bool true) ∧ StF wB c fbB E r2 fb 60 2 cap fs0 (m + 1) (G - 2) (ns ++ [(be self)]) mem W rt rd la w' := by
  obtain ⟨S, mv, hS⟩ := hE
  obtain ⟨cs, c1, c9, c10, c11, cn⟩ := hS.ch.row
  obtain ⟨mp, mc, em⟩ := hS.mm.cell
  have hG2 : G < 256 ^ 100 := Nat.lt_of_le_of_lt hG (by decide)
  have hcw := hcv.keptN hS.k hH
  have hwle := hS.wle
  refine stepB_plain2 S rr c fb m G 2 0 2 0 0 0 48 cs fs0 cap _ cv mv ds (fun w' => FrameM S rr w' fb 60 fs0 m (G - 2) ns mv) _ (fun _ _ => True) w (by decide) c1 c9 c11 hS.sl hS.fr hcw hm hl sb hfc hkG (Nat.lt_of_lt_of_le hG2 (by decide)) ?_ ?_ ?_ family_address (by decide) ?_
  · intro w' K1
    have hF := hS.fr.kept K1
    refine refusalB_address _ fb 60 m G 2 fs0 cv _ _ w' hF.toQ sb hfc (by simp) (by (try simp); omega) hkG fun w1 K2 => ?_
    obtain ⟨fs, f1, _, _, f9, _⟩ := (hF.kept K2).row
    rw [em] at f9
    refine costM_no _ fb 60 48 2 0 mem.length W fs mp mc w1 f1 f9 (by decide) hS.len (by omega) (by decide) (Nat.zero_le _) (fun w2 K3 => ?_) (fun w2 K3 => ?_)
    · exact bareCost_address _ _ w2
    · refine (reach_address _ w2).mono ?_
      rintro e w3 ⟨rfl, rfl⟩
      exact ⟨_, rfl, nil_num _, Kept.refl _ _⟩
  · intro w' K1 hF
    refine (reach_address _ w').mono ?_
    rintro e w3 ⟨rfl, rfl⟩
    exact ⟨_, rfl, nil_num _, Kept.refl _ _⟩
  · intro w' r K1 hF hr
    obtain ⟨fs, f1, _, _, f9, _⟩ := hF.row
    rw [em] at f9
    refine (growM_no fb 60 0 mem.length W fs mp mc r w' f1 f9 hr hS.len (by omega) (by decide) (Nat.zero_le _)).mono ?_
    rintro e w3 ⟨r', rfl, K⟩
    exact ⟨r', rfl, hF.kept K, K.mono (by simp)⟩
  · intro w' K1 hF
    have hS2 := hS.frame K1 hF
    have hcw2 := hcv.keptN hS2.k hH
    refine (plainM_address S rr r2 _ fb 60 m (G - 2) 0 0 0 0 (be self) fs0 mv ns w' hS2.sl hF (by omega) (by omega) hr2 hr3 fun w1 ab args K2 e1  => ?_).mono ?_
    · have hF1 := hF.kept K2
      have hS3 := hS2.kept K2
      obtain ⟨fs, f1, _, f2, _, _⟩ := hF1.row
      exact valueM_address _ nilS nilS 0 fb 60 ab 0 #[] fs args self w1 f1 (fun i x hx => (f2 (60 + 12 + i) (by omega) (by omega) (by omega) (by omega)).trans (hself i x hx)) hl20 hsm
    · skip
      rintro e w'' ⟨r, rfl, K2, hF2⟩
      exact ⟨r, rfl, S, mv, hS2.frame K2 hF2⟩
theorem stepY_caller2 {wB : World} {c fbB : Nat} {E : XEnv} {rr fb cap : Nat} {fs0 : Array Value} {m G : Nat} {ns : List Nat} {mem : List Nat} {W : Nat} {rt : Value} {rd : List Nat} {la : List (List Nat)} {w : World} {cv : Value} {ds : List Nat} {sb : Bool} (self : List Nat) (r2 : Nat) (hE : StF wB c fbB E rr fb 60 2 cap fs0 m G ns mem W rt rd la w) (hH : Hard [c, fbB] wB) (hcv : NatV wB cv ds) (hfc : FrB fs0 60 sb cv) (hm : ds[m]? = some 51) (hl : ds.length ≤ 1000) (hns : ns.length ≤ 20) (hm1 : m ≤ 900) (hkG : 2 ≤ G) (hG : G ≤ 1000000) (hr2 : r2 ≤ rr) (hr3 : r2 ≤ ns.length) (hself : ∀ i x, self[i]? = some x → fs0[60 + 32 + i]? = some (n8 x)) (hl20 : self.length = 20) (hsm : Small self) :
    Calls Salg.prog 27 #[.pointer (some ⟨c, 0, none⟩)] w fun e w' => e = .returned (.bool true) ∧ StF wB c fbB E r2 fb 60 2 cap fs0 (m + 1) (G - 2) (ns ++ [(be self)]) mem W rt rd la w' := by
  obtain ⟨S, mv, hS⟩ := hE
  obtain ⟨cs, c1, c9, c10, c11, cn⟩ := hS.ch.row
  obtain ⟨mp, mc, em⟩ := hS.mm.cell
  have hG2 : G < 256 ^ 100 := Nat.lt_of_le_of_lt hG (by decide)
  have hcw := hcv.keptN hS.k hH
  have hwle := hS.wle
  refine stepB_plain2 S rr c fb m G 2 0 2 0 0 0 51 cs fs0 cap _ cv mv ds (fun w' => FrameM S rr w' fb 60 fs0 m (G - 2) ns mv) _ (fun _ _ => True) w (by decide) c1 c9 c11 hS.sl hS.fr hcw hm hl sb hfc hkG (Nat.lt_of_lt_of_le hG2 (by decide)) ?_ ?_ ?_ family_caller (by decide) ?_
  · intro w' K1
    have hF := hS.fr.kept K1
    refine refusalB_caller _ fb 60 m G 2 fs0 cv _ _ w' hF.toQ sb hfc (by simp) (by (try simp); omega) hkG fun w1 K2 => ?_
    obtain ⟨fs, f1, _, _, f9, _⟩ := (hF.kept K2).row
    rw [em] at f9
    refine costM_no _ fb 60 51 2 0 mem.length W fs mp mc w1 f1 f9 (by decide) hS.len (by omega) (by decide) (Nat.zero_le _) (fun w2 K3 => ?_) (fun w2 K3 => ?_)
    · exact bareCost_caller _ _ w2
    · refine (reach_caller _ w2).mono ?_
      rintro e w3 ⟨rfl, rfl⟩
      exact ⟨_, rfl, nil_num _, Kept.refl _ _⟩
  · intro w' K1 hF
    refine (reach_caller _ w').mono ?_
    rintro e w3 ⟨rfl, rfl⟩
    exact ⟨_, rfl, nil_num _, Kept.refl _ _⟩
  · intro w' r K1 hF hr
    obtain ⟨fs, f1, _, _, f9, _⟩ := hF.row
    rw [em] at f9
    refine (growM_no fb 60 0 mem.length W fs mp mc r w' f1 f9 hr hS.len (by omega) (by decide) (Nat.zero_le _)).mono ?_
    rintro e w3 ⟨r', rfl, K⟩
    exact ⟨r', rfl, hF.kept K, K.mono (by simp)⟩
  · intro w' K1 hF
    have hS2 := hS.frame K1 hF
    have hcw2 := hcv.keptN hS2.k hH
    refine (plainM_caller S rr r2 _ fb 60 m (G - 2) 0 0 0 0 (be self) fs0 mv ns w' hS2.sl hF (by omega) (by omega) hr2 hr3 fun w1 ab args K2 e1  => ?_).mono ?_
    · have hF1 := hF.kept K2
      have hS3 := hS2.kept K2
      obtain ⟨fs, f1, _, f2, _, _⟩ := hF1.row
      exact valueM_caller _ nilS nilS 0 fb 60 ab 0 #[] fs args self w1 f1 (fun i x hx => (f2 (60 + 32 + i) (by omega) (by omega) (by omega) (by omega)).trans (hself i x hx)) hl20 hsm
    · skip
      rintro e w'' ⟨r, rfl, K2, hF2⟩
      exact ⟨r, rfl, S, mv, hS2.frame K2 hF2⟩
theorem stepY_callvalue2 {wB : World} {c fbB : Nat} {E : XEnv} {rr fb cap : Nat} {fs0 : Array Value} {m G : Nat} {ns : List Nat} {mem : List Nat} {W : Nat} {rt : Value} {rd : List Nat} {la : List (List Nat)} {w : World} {cv : Value} {ds : List Nat} {sb : Bool} (A : Nat) (vv : Value) (r2 : Nat) (hE : StF wB c fbB E rr fb 60 2 cap fs0 m G ns mem W rt rd la w) (hH : Hard [c, fbB] wB) (hcv : NatV wB cv ds) (hfc : FrB fs0 60 sb cv) (hm : ds[m]? = some 52) (hl : ds.length ≤ 1000) (hns : ns.length ≤ 20) (hm1 : m ≤ 900) (hkG : 2 ≤ G) (hG : G ≤ 1000000) (hr2 : r2 ≤ rr) (hr3 : r2 ≤ ns.length) (h5 : fs0[60 + 5]? = some vv) (hvv : NumV wB vv A) :
    Calls Salg.prog 27 #[.pointer (some ⟨c, 0, none⟩)] w fun e w' => e = .returned (.bool true) ∧ StF wB c fbB E r2 fb 60 2 cap fs0 (m + 1) (G - 2) (ns ++ [A]) mem W rt rd la w' := by
  obtain ⟨S, mv, hS⟩ := hE
  obtain ⟨cs, c1, c9, c10, c11, cn⟩ := hS.ch.row
  obtain ⟨mp, mc, em⟩ := hS.mm.cell
  have hG2 : G < 256 ^ 100 := Nat.lt_of_le_of_lt hG (by decide)
  have hcw := hcv.keptN hS.k hH
  have hwle := hS.wle
  refine stepB_plain2 S rr c fb m G 2 0 2 0 0 0 52 cs fs0 cap _ cv mv ds (fun w' => FrameM S rr w' fb 60 fs0 m (G - 2) ns mv) _ (fun _ _ => True) w (by decide) c1 c9 c11 hS.sl hS.fr hcw hm hl sb hfc hkG (Nat.lt_of_lt_of_le hG2 (by decide)) ?_ ?_ ?_ family_callvalue (by decide) ?_
  · intro w' K1
    have hF := hS.fr.kept K1
    refine refusalB_callvalue _ fb 60 m G 2 fs0 cv _ _ w' hF.toQ sb hfc (by simp) (by (try simp); omega) hkG fun w1 K2 => ?_
    obtain ⟨fs, f1, _, _, f9, _⟩ := (hF.kept K2).row
    rw [em] at f9
    refine costM_no _ fb 60 52 2 0 mem.length W fs mp mc w1 f1 f9 (by decide) hS.len (by omega) (by decide) (Nat.zero_le _) (fun w2 K3 => ?_) (fun w2 K3 => ?_)
    · exact bareCost_callvalue _ _ w2
    · refine (reach_callvalue _ w2).mono ?_
      rintro e w3 ⟨rfl, rfl⟩
      exact ⟨_, rfl, nil_num _, Kept.refl _ _⟩
  · intro w' K1 hF
    refine (reach_callvalue _ w').mono ?_
    rintro e w3 ⟨rfl, rfl⟩
    exact ⟨_, rfl, nil_num _, Kept.refl _ _⟩
  · intro w' r K1 hF hr
    obtain ⟨fs, f1, _, _, f9, _⟩ := hF.row
    rw [em] at f9
    refine (growM_no fb 60 0 mem.length W fs mp mc r w' f1 f9 hr hS.len (by omega) (by decide) (Nat.zero_le _)).mono ?_
    rintro e w3 ⟨r', rfl, K⟩
    exact ⟨r', rfl, hF.kept K, K.mono (by simp)⟩
  · intro w' K1 hF
    have hS2 := hS.frame K1 hF
    have hcw2 := hcv.keptN hS2.k hH
    refine (plainM_callvalue S rr r2 _ fb 60 m (G - 2) 0 0 0 0 A fs0 mv ns w' hS2.sl hF (by omega) (by omega) hr2 hr3 fun w1 ab args K2 e1  => ?_).mono ?_
    · have hF1 := hF.kept K2
      have hS3 := hS2.kept K2
      obtain ⟨fs, f1, _, f2, _, _⟩ := hF1.row
      exact valueM_callvalue _ nilS vv 0 fb 60 ab A #[] fs args [] w1 f1 ((f2 (60 + 5) (by omega) (by omega) (by omega) (by omega)).trans h5) (hvv.keptN hS3.k hH)
    · skip
      rintro e w'' ⟨r, rfl, K2, hF2⟩
      exact ⟨r, rfl, S, mv, hS2.frame K2 hF2⟩
theorem stepY_origin2 {wB : World} {c fbB : Nat} {E : XEnv} {rr fb cap : Nat} {fs0 : Array Value} {m G : Nat} {ns : List Nat} {mem : List Nat} {W : Nat} {rt : Value} {rd : List Nat} {la : List (List Nat)} {w : World} {cv : Value} {ds : List Nat} {sb : Bool} (r2 : Nat) (hE : StF wB c fbB E rr fb 60 2 cap fs0 m G ns mem W rt rd la w) (hH : Hard [c, fbB] wB) (hcv : NatV wB cv ds) (hfc : FrB fs0 60 sb cv) (hm : ds[m]? = some 50) (hl : ds.length ≤ 1000) (hns : ns.length ≤ 20) (hm1 : m ≤ 900) (hkG : 2 ≤ G) (hG : G ≤ 1000000) (hr2 : r2 ≤ rr) (hr3 : r2 ≤ ns.length) :
    Calls Salg.prog 27 #[.pointer (some ⟨c, 0, none⟩)] w fun e w' => e = .returned (.bool true) ∧ StF wB c fbB E r2 fb 60 2 cap fs0 (m + 1) (G - 2) (ns ++ [(be (ad 240))]) mem W rt rd la w' := by
  obtain ⟨S, mv, hS⟩ := hE
  obtain ⟨cs, c1, c9, c10, c11, cn⟩ := hS.ch.row
  obtain ⟨mp, mc, em⟩ := hS.mm.cell
  have hG2 : G < 256 ^ 100 := Nat.lt_of_le_of_lt hG (by decide)
  have hcw := hcv.keptN hS.k hH
  have hwle := hS.wle
  refine stepB_plain2 S rr c fb m G 2 0 2 0 0 0 50 cs fs0 cap _ cv mv ds (fun w' => FrameM S rr w' fb 60 fs0 m (G - 2) ns mv) _ (fun _ _ => True) w (by decide) c1 c9 c11 hS.sl hS.fr hcw hm hl sb hfc hkG (Nat.lt_of_lt_of_le hG2 (by decide)) ?_ ?_ ?_ family_origin (by decide) ?_
  · intro w' K1
    have hF := hS.fr.kept K1
    refine refusalB_origin _ fb 60 m G 2 fs0 cv _ _ w' hF.toQ sb hfc (by simp) (by (try simp); omega) hkG fun w1 K2 => ?_
    obtain ⟨fs, f1, _, _, f9, _⟩ := (hF.kept K2).row
    rw [em] at f9
    refine costM_no _ fb 60 50 2 0 mem.length W fs mp mc w1 f1 f9 (by decide) hS.len (by omega) (by decide) (Nat.zero_le _) (fun w2 K3 => ?_) (fun w2 K3 => ?_)
    · exact bareCost_origin _ _ w2
    · refine (reach_origin _ w2).mono ?_
      rintro e w3 ⟨rfl, rfl⟩
      exact ⟨_, rfl, nil_num _, Kept.refl _ _⟩
  · intro w' K1 hF
    refine (reach_origin _ w').mono ?_
    rintro e w3 ⟨rfl, rfl⟩
    exact ⟨_, rfl, nil_num _, Kept.refl _ _⟩
  · intro w' r K1 hF hr
    obtain ⟨fs, f1, _, _, f9, _⟩ := hF.row
    rw [em] at f9
    refine (growM_no fb 60 0 mem.length W fs mp mc r w' f1 f9 hr hS.len (by omega) (by decide) (Nat.zero_le _)).mono ?_
    rintro e w3 ⟨r', rfl, K⟩
    exact ⟨r', rfl, hF.kept K, K.mono (by simp)⟩
  · intro w' K1 hF
    have hS2 := hS.frame K1 hF
    have hcw2 := hcv.keptN hS2.k hH
    refine (plainM_origin S rr r2 _ fb 60 m (G - 2) 0 0 0 0 (be (ad 240)) fs0 mv ns w' hS2.sl hF (by omega) (by omega) hr2 hr3 fun w1 ab args K2 e1  => ?_).mono ?_
    · have hF1 := hF.kept K2
      have hS3 := hS2.kept K2
      obtain ⟨fs, f1, _, f2, _, _⟩ := hF1.row
      obtain ⟨wz, k1, _⟩ := hS3.ch
      exact valueM_origin nilS nilS nilS c fb 60 ab 0 _ fs args (ad 240) w1 f1 k1 (chN_orig _ _ _ _) rfl smallAd240
    · skip
      rintro e w'' ⟨r, rfl, K2, hF2⟩
      exact ⟨r, rfl, S, mv, hS2.frame K2 hF2⟩
theorem stepY_returndatasize2 {wB : World} {c fbB : Nat} {E : XEnv} {rr fb cap : Nat} {fs0 : Array Value} {m G : Nat} {ns : List Nat} {mem : List Nat} {W : Nat} {rt : Value} {rd : List Nat} {la : List (List Nat)} {w : World} {cv : Value} {ds : List Nat} {sb : Bool} (r2 : Nat) (hE : StF wB c fbB E rr fb 60 2 cap fs0 m G ns mem W rt rd la w) (hH : Hard [c, fbB] wB) (hcv : NatV wB cv ds) (hfc : FrB fs0 60 sb cv) (hm : ds[m]? = some 61) (hl : ds.length ≤ 1000) (hns : ns.length ≤ 20) (hm1 : m ≤ 900) (hkG : 2 ≤ G) (hG : G ≤ 1000000) (hr2 : r2 ≤ rr) (hr3 : r2 ≤ ns.length) (hrd : rd.length ≤ 100000) :
    Calls Salg.prog 27 #[.pointer (some ⟨c, 0, none⟩)] w fun e w' => e = .returned (.bool true) ∧ StF wB c fbB E r2 fb 60 2 cap fs0 (m + 1) (G - 2) (ns ++ [rd.length]) mem W rt rd la w' := by
  obtain ⟨S, mv, hS⟩ := hE
  obtain ⟨cs, c1, c9, c10, c11, cn⟩ := hS.ch.row
  obtain ⟨mp, mc, em⟩ := hS.mm.cell
  have hG2 : G < 256 ^ 100 := Nat.lt_of_le_of_lt hG (by decide)
  have hcw := hcv.keptN hS.k hH
  have hwle := hS.wle
  refine stepB_plain2 S rr c fb m G 2 0 2 0 0 0 61 cs fs0 cap _ cv mv ds (fun w' => FrameM S rr w' fb 60 fs0 m (G - 2) ns mv) _ (fun _ _ => True) w (by decide) c1 c9 c11 hS.sl hS.fr hcw hm hl sb hfc hkG (Nat.lt_of_lt_of_le hG2 (by decide)) ?_ ?_ ?_ family_returndatasize (by decide) ?_
  · intro w' K1
    have hF := hS.fr.kept K1
    refine refusalB_returndatasize _ fb 60 m G 2 fs0 cv _ _ w' hF.toQ sb hfc (by simp) (by (try simp); omega) hkG fun w1 K2 => ?_
    obtain ⟨fs, f1, _, _, f9, _⟩ := (hF.kept K2).row
    rw [em] at f9
    refine costM_no _ fb 60 61 2 0 mem.length W fs mp mc w1 f1 f9 (by decide) hS.len (by omega) (by decide) (Nat.zero_le _) (fun w2 K3 => ?_) (fun w2 K3 => ?_)
    · exact bareCost_returndatasize _ _ w2
    · refine (reach_returndatasize _ w2).mono ?_
      rintro e w3 ⟨rfl, rfl⟩
      exact ⟨_, rfl, nil_num _, Kept.refl _ _⟩
  · intro w' K1 hF
    refine (reach_returndatasize _ w').mono ?_
    rintro e w3 ⟨rfl, rfl⟩
    exact ⟨_, rfl, nil_num _, Kept.refl _ _⟩
  · intro w' r K1 hF hr
    obtain ⟨fs, f1, _, _, f9, _⟩ := hF.row
    rw [em] at f9
    refine (growM_no fb 60 0 mem.length W fs mp mc r w' f1 f9 hr hS.len (by omega) (by decide) (Nat.zero_le _)).mono ?_
    rintro e w3 ⟨r', rfl, K⟩
    exact ⟨r', rfl, hF.kept K, K.mono (by simp)⟩
  · intro w' K1 hF
    have hS2 := hS.frame K1 hF
    have hcw2 := hcv.keptN hS2.k hH
    refine (plainM_returndatasize S rr r2 _ fb 60 m (G - 2) 0 0 0 0 rd.length fs0 mv ns w' hS2.sl hF (by omega) (by omega) hr2 hr3 fun w1 ab args K2 e1  => ?_).mono ?_
    · have hF1 := hF.kept K2
      have hS3 := hS2.kept K2
      obtain ⟨fs, f1, _, f2, _, _⟩ := hF1.row
      obtain ⟨cs1, k1, _, k10, _, _⟩ := hS3.ch.row
      obtain ⟨rp, rc, er, _⟩ := hS3.rt.1
      rw [er] at k10
      exact valueM_returndatasize nilS nilS nilS rp rc c fb 60 ab rd.length cs1 fs args [] w1 f1 k1 k10 hrd
    · skip
      rintro e w'' ⟨r, rfl, K2, hF2⟩
      exact ⟨r, rfl, S, mv, hS2.frame K2 hF2⟩
theorem stepY_push03 {wB : World} {c fbB : Nat} {E : XEnv} {rr fb cap : Nat} {fs0 : Array Value} {m G : Nat} {ns : List Nat} {mem : List Nat} {W : Nat} {rt : Value} {rd : List Nat} {la : List (List Nat)} {w : World} {cv : Value} {ds : List Nat} {sb : Bool} (V : Nat) (r2 : Nat) (hE : StF wB c fbB E rr fb 120 3 cap fs0 m G ns mem W rt rd la w) (hH : Hard [c, fbB] wB) (hcv : NatV wB cv ds) (hfc : FrB fs0 120 sb cv) (hm : ds[m]? = some 95) (hl : ds.length ≤ 1000) (hns : ns.length ≤ 20) (hm1 : m ≤ 900) (hkG : 2 ≤ G) (hG : G ≤ 1000000) (hr2 : r2 ≤ rr) (hr3 : r2 ≤ ns.length) (hV : be (cutB ds (m + 1) 0) = V) :
    Calls Salg.prog 27 #[.pointer (some ⟨c, 0, none⟩)] w fun e w' => e = .returned (.bool true) ∧ StF wB c fbB E r2 fb 120 3 cap fs0 (m + (1 + 0)) (G - 2) (ns ++ [V]) mem W rt rd la w' := by
  obtain ⟨S, mv, hS⟩ := hE
  obtain ⟨cs, c1, c9, c10, c11, cn⟩ := hS.ch.row
  obtain ⟨mp, mc, em⟩ := hS.mm.cell
  have hG2 : G < 256 ^ 100 := Nat.lt_of_le_of_lt hG (by decide)
  have hcw := hcv.keptN hS.k hH
  have hwle := hS.wle
  refine stepB_plain3 S rr c fb m G 2 0 2 0 0 0 95 cs fs0 cap _ cv mv ds (fun w' => FrameM S rr w' fb 120 fs0 m (G - 2) ns mv) _ (fun _ _ => True) w (by decide) c1 c9 c11 hS.sl hS.fr hcw hm hl sb hfc hkG (Nat.lt_of_lt_of_le hG2 (by decide)) ?_ ?_ ?_ family_push0 (by decide) ?_
  · intro w' K1
    have hF := hS.fr.kept K1
    refine refusalB_push0 _ fb 120 m G 2 fs0 cv _ _ w' hF.toQ sb hfc (by simp) (by (try simp); omega) hkG fun w1 K2 => ?_
    obtain ⟨fs, f1, _, _, f9, _⟩ := (hF.kept K2).row
    rw [em] at f9
    refine costM_no _ fb 120 95 2 0 mem.length W fs mp mc w1 f1 f9 (by decide) hS.len (by omega) (by decide) (Nat.zero_le _) (fun w2 K3 => ?_) (fun w2 K3 => ?_)
    · exact bareCost_push0 _ _ w2
    · refine (reach_push0 _ w2).mono ?_
      rintro e w3 ⟨rfl, rfl⟩
      exact ⟨_, rfl, nil_num _, Kept.refl _ _⟩
  · intro w' K1 hF
    refine (reach_push0 _ w').mono ?_
    rintro e w3 ⟨rfl, rfl⟩
    exact ⟨_, rfl, nil_num _, Kept.refl _ _⟩
  · intro w' r K1 hF hr
    obtain ⟨fs, f1, _, _, f9, _⟩ := hF.row
    rw [em] at f9
    refine (growM_no fb 120 0 mem.length W fs mp mc r w' f1 f9 hr hS.len (by omega) (by decide) (Nat.zero_le _)).mono ?_
    rintro e w3 ⟨r', rfl, K⟩
    exact ⟨r', rfl, hF.kept K, K.mono (by simp)⟩
  · intro w' K1 hF
    have hS2 := hS.frame K1 hF
    have hcw2 := hcv.keptN hS2.k hH
    refine (plainM_push S rr r2 _ fb 120 m (G - 2) 95 0 2 fs0 cv mv ds ns w' opk_push0 (by decide) (by decide) hS2.sl hF hr2 hr3 hfc.f10 hcw2 (by omega) (by omega) hl).mono ?_
    rintro e w'' ⟨r, rfl, K2, hF2⟩
    rw [hV] at hF2
    exact ⟨r, rfl, S, mv, hS2.frame K2 hF2⟩
theorem stepY_push13 {wB : World} {c fbB : Nat} {E : XEnv} {rr fb cap : Nat} {fs0 : Array Value} {m G : Nat} {ns : List Nat} {mem : List Nat} {W : Nat} {rt : Value} {rd : List Nat} {la : List (List Nat)} {w : World} {cv : Value} {ds : List Nat} {sb : Bool} (V : Nat) (r2 : Nat) (hE : StF wB c fbB E rr fb 120 3 cap fs0 m G ns mem W rt rd la w) (hH : Hard [c, fbB] wB) (hcv : NatV wB cv ds) (hfc : FrB fs0 120 sb cv) (hm : ds[m]? = some 96) (hl : ds.length ≤ 1000) (hns : ns.length ≤ 20) (hm1 : m ≤ 900) (hkG : 3 ≤ G) (hG : G ≤ 1000000) (hr2 : r2 ≤ rr) (hr3 : r2 ≤ ns.length) (hV : be (cutB ds (m + 1) 1) = V) :
    Calls Salg.prog 27 #[.pointer (some ⟨c, 0, none⟩)] w fun e w' => e = .returned (.bool true) ∧ StF wB c fbB E r2 fb 120 3 cap fs0 (m + (1 + 1)) (G - 3) (ns ++ [V]) mem W rt rd la w' := by
  obtain ⟨S, mv, hS⟩ := hE
  obtain ⟨cs, c1, c9, c10, c11, cn⟩ := hS.ch.row
  obtain ⟨mp, mc, em⟩ := hS.mm.cell
  have hG2 : G < 256 ^ 100 := Nat.lt_of_le_of_lt hG (by decide)
  have hcw := hcv.keptN hS.k hH
  have hwle := hS.wle
  refine stepB_plain3 S rr c fb m G 3 0 2 0 0 0 96 cs fs0 cap _ cv mv ds (fun w' => FrameM S rr w' fb 120 fs0 m (G - 3) ns mv) _ (fun _ _ => True) w (by decide) c1 c9 c11 hS.sl hS.fr hcw hm hl sb hfc hkG (Nat.lt_of_lt_of_le hG2 (by decide)) ?_ ?_ ?_ (fun w => family_push 96 w (by decide) (by decide)) (by decide) ?_
  · intro w' K1
    have hF := hS.fr.kept K1
    refine refusalB_push1 _ fb 120 m G 3 fs0 cv _ _ w' hF.toQ sb hfc (by simp) (by (try simp); omega) hkG fun w1 K2 => ?_
    obtain ⟨fs, f1, _, _, f9, _⟩ := (hF.kept K2).row
    rw [em] at f9
    refine costM_no _ fb 120 96 3 0 mem.length W fs mp mc w1 f1 f9 (by decide) hS.len (by omega) (by decide) (Nat.zero_le _) (fun w2 K3 => ?_) (fun w2 K3 => ?_)
    · exact bareCost_push _ _ 96 w2 (by decide) (by decide)
    · refine (reach_push _ 96 w2 (by decide) (by decide)).mono ?_
      rintro e w3 ⟨rfl, rfl⟩
      exact ⟨_, rfl, nil_num _, Kept.refl _ _⟩
  · intro w' K1 hF
    refine (reach_push _ 96 w' (by decide) (by decide)).mono ?_
    rintro e w3 ⟨rfl, rfl⟩
    exact ⟨_, rfl, nil_num _, Kept.refl _ _⟩
  · intro w' r K1 hF hr
    obtain ⟨fs, f1, _, _, f9, _⟩ := hF.row
    rw [em] at f9
    refine (growM_no fb 120 0 mem.length W fs mp mc r w' f1 f9 hr hS.len (by omega) (by decide) (Nat.zero_le _)).mono ?_
    rintro e w3 ⟨r', rfl, K⟩
    exact ⟨r', rfl, hF.kept K, K.mono (by simp)⟩
  · intro w' K1 hF
    have hS2 := hS.frame K1 hF
    have hcw2 := hcv.keptN hS2.k hH
    refine (plainM_push S rr r2 _ fb 120 m (G - 3) 96 1 3 fs0 cv mv ds ns w' (opk_push 96 (by decide) (by decide)) (by decide) (by decide) hS2.sl hF hr2 hr3 hfc.f10 hcw2 (by omega) (by omega) hl).mono ?_
    rintro e w'' ⟨r, rfl, K2, hF2⟩
    rw [hV] at hF2
    exact ⟨r, rfl, S, mv, hS2.frame K2 hF2⟩
theorem stepY_gas3 {wB : World} {c fbB : Nat} {E : XEnv} {rr fb cap : Nat} {fs0 : Array Value} {m G : Nat} {ns : List Nat} {mem : List Nat} {W : Nat} {rt : Value} {rd : List Nat} {la : List (List Nat)} {w : World} {cv : Value} {ds : List Nat} {sb : Bool} (r2 : Nat) (hE : StF wB c fbB E rr fb 120 3 cap fs0 m G ns mem W rt rd la w) (hH : Hard [c, fbB] wB) (hcv : NatV wB cv ds) (hfc : FrB fs0 120 sb cv) (hm : ds[m]? = some 90) (hl : ds.length ≤ 1000) (hns : ns.length ≤ 20) (hm1 : m ≤ 900) (hkG : 2 ≤ G) (hG : G ≤ 1000000) (hr2 : r2 ≤ rr) (hr3 : r2 ≤ ns.length) :
    Calls Salg.prog 27 #[.pointer (some ⟨c, 0, none⟩)] w fun e w' => e = .returned (.bool true) ∧ StF wB c fbB E r2 fb 120 3 cap fs0 (m + 1) (G - 2) (ns ++ [(G - 2)]) mem W rt rd la w' := by
  obtain ⟨S, mv, hS⟩ := hE
  obtain ⟨cs, c1, c9, c10, c11, cn⟩ := hS.ch.row
  obtain ⟨mp, mc, em⟩ := hS.mm.cell
  have hG2 : G < 256 ^ 100 := Nat.lt_of_le_of_lt hG (by decide)
  have hcw := hcv.keptN hS.k hH
  have hwle := hS.wle
  refine stepB_plain3 S rr c fb m G 2 0 4 0 0 0 90 cs fs0 cap _ cv mv ds (fun w' => FrameM S rr w' fb 120 fs0 m (G - 2) ns mv) _ (fun _ _ => True) w (by decide) c1 c9 c11 hS.sl hS.fr hcw hm hl sb hfc hkG (Nat.lt_of_lt_of_le hG2 (by decide)) ?_ ?_ ?_ family_gas (by decide) ?_
  · intro w' K1
    have hF := hS.fr.kept K1
    refine refusalB_gas _ fb 120 m G 2 fs0 cv _ _ w' hF.toQ sb hfc (by simp) (by (try simp); omega) hkG fun w1 K2 => ?_
    obtain ⟨fs, f1, _, _, f9, _⟩ := (hF.kept K2).row
    rw [em] at f9
    refine costM_no _ fb 120 90 2 0 mem.length W fs mp mc w1 f1 f9 (by decide) hS.len (by omega) (by decide) (Nat.zero_le _) (fun w2 K3 => ?_) (fun w2 K3 => ?_)
    · exact bareCost_gas _ _ w2
    · refine (reach_gas _ w2).mono ?_
      rintro e w3 ⟨rfl, rfl⟩
      exact ⟨_, rfl, nil_num _, Kept.refl _ _⟩
  · intro w' K1 hF
    refine (reach_gas _ w').mono ?_
    rintro e w3 ⟨rfl, rfl⟩
    exact ⟨_, rfl, nil_num _, Kept.refl _ _⟩
  · intro w' r K1 hF hr
    obtain ⟨fs, f1, _, _, f9, _⟩ := hF.row
    rw [em] at f9
    refine (growM_no fb 120 0 mem.length W fs mp mc r w' f1 f9 hr hS.len (by omega) (by decide) (Nat.zero_le _)).mono ?_
    rintro e w3 ⟨r', rfl, K⟩
    exact ⟨r', rfl, hF.kept K, K.mono (by simp)⟩
  · intro w' K1 hF
    have hS2 := hS.frame K1 hF
    have hcw2 := hcv.keptN hS2.k hH
    refine (plainM_gas S rr r2 _ fb 120 m (G - 2) 0 0 0 0 (G - 2) fs0 mv ns w' hS2.sl hF (by omega) (by omega) hr2 hr3 fun w1 ab args K2 e1  => ?_).mono ?_
    · have hF1 := hF.kept K2
      have hS3 := hS2.kept K2
      obtain ⟨fs, pv, gv, sv, xs, h1, h0, h2, h3, h4, h5, h6, h7, h8, h9, ha, _⟩ := hF1
      exact valueM_gas _ nilS gv 0 fb 120 ab (G - 2) #[] fs args [] w1 h1 h5 h6.num
    · skip
      rintro e w'' ⟨r, rfl, K2, hF2⟩
      exact ⟨r, rfl, S, mv, hS2.frame K2 hF2⟩
theorem stepY_address3 {wB : World} {c fbB : Nat} {E : XEnv} {rr fb cap : Nat} {fs0 : Array Value} {m G : Nat} {ns : List Nat} {mem : List Nat} {W : Nat} {rt : Value} {rd : List Nat} {la : List (List Nat)} {w : World} {cv : Value} {ds : List Nat} {sb : Bool} (self : List Nat) (r2 : Nat) (hE : StF wB c fbB E rr fb 120 3 cap fs0 m G ns mem W rt rd la w) (hH : Hard [c, fbB] wB) (hcv : NatV wB cv ds) (hfc : FrB fs0 120 sb cv) (hm : ds[m]? = some 48) (hl : ds.length ≤ 1000) (hns : ns.length ≤ 20) (hm1 : m ≤ 900) (hkG : 2 ≤ G) (hG : G ≤ 1000000) (hr2 : r2 ≤ rr) (hr3 : r2 ≤ ns.length) (hself : ∀ i x, self[i]? = some x → fs0[120 + 12 + i]? = some (n8 x)) (hl20 : self.length = 20) (hsm : Small self) :
    Calls Salg.prog 27 #[.pointer (some ⟨c, 0, none⟩)] w fun e w' => e = .returned (.bool true) ∧ StF wB c fbB E r2 fb 120 3 cap fs0 (m + 1) (G - 2) (ns ++ [(be self)]) mem W rt rd la w' := by
  obtain ⟨S, mv, hS⟩ := hE
  obtain ⟨cs, c1, c9, c10, c11, cn⟩ := hS.ch.row
  obtain ⟨mp, mc, em⟩ := hS.mm.cell
  have hG2 : G < 256 ^ 100 := Nat.lt_of_le_of_lt hG (by decide)
  have hcw := hcv.keptN hS.k hH
  have hwle := hS.wle
  refine stepB_plain3 S rr c fb m G 2 0 2 0 0 0 48 cs fs0 cap _ cv mv ds (fun w' => FrameM S rr w' fb 120 fs0 m (G - 2) ns mv) _ (fun _ _ => True) w (by decide) c1 c9 c11 hS.sl hS.fr hcw hm hl sb hfc hkG (Nat.lt_of_lt_of_le hG2 (by decide)) ?_ ?_ ?_ family_address (by decide) ?_
  · intro w' K1
    have hF := hS.fr.kept K1
    refine refusalB_address _ fb 120 m G 2 fs0 cv _ _ w' hF.toQ sb hfc (by simp) (by (try simp); omega) hkG fun w1 K2 => ?_
    obtain ⟨fs, f1, _, _, f9, _⟩ := (hF.kept K2).row
    rw [em] at f9
    refine costM_no _ fb 120 48 2 0 mem.length W fs mp mc w1 f1 f9 (by decide) hS.len (by omega) (by decide) (Nat.zero_le _) (fun w2 K3 => ?_) (fun w2 K3 => ?_)
    · exact bareCost_address _ _ w2
    · refine (reach_address _ w2).mono ?_
      rintro e w3 ⟨rfl, rfl⟩
      exact ⟨_, rfl, nil_num _, Kept.refl _ _⟩
  · intro w' K1 hF
    refine (reach_address _ w').mono ?_
    rintro e w3 ⟨rfl, rfl⟩
    exact ⟨_, rfl, nil_num _, Kept.refl _ _⟩
  · intro w' r K1 hF hr
    obtain ⟨fs, f1, _, _, f9, _⟩ := hF.row
    rw [em] at f9
    refine (growM_no fb 120 0 mem.length W fs mp mc r w' f1 f9 hr hS.len (by omega) (by decide) (Nat.zero_le _)).mono ?_
    rintro e w3 ⟨r', rfl, K⟩
    exact ⟨r', rfl, hF.kept K, K.mono (by simp)⟩
  · intro w' K1 hF
    have hS2 := hS.frame K1 hF
    have hcw2 := hcv.keptN hS2.k hH
    refine (plainM_address S rr r2 _ fb 120 m (G - 2) 0 0 0 0 (be self) fs0 mv ns w' hS2.sl hF (by omega) (by omega) hr2 hr3 fun w1 ab args K2 e1  => ?_).mono ?_
    · have hF1 := hF.kept K2
      have hS3 := hS2.kept K2
      obtain ⟨fs, f1, _, f2, _, _⟩ := hF1.row
      exact valueM_address _ nilS nilS 0 fb 120 ab 0 #[] fs args self w1 f1 (fun i x hx => (f2 (120 + 12 + i) (by omega) (by omega) (by omega) (by omega)).trans (hself i x hx)) hl20 hsm
    · skip
      rintro e w'' ⟨r, rfl, K2, hF2⟩
      exact ⟨r, rfl, S, mv, hS2.frame K2 hF2⟩
theorem stepY_caller3 {wB : World} {c fbB : Nat} {E : XEnv} {rr fb cap : Nat} {fs0 : Array Value} {m G : Nat} {ns : List Nat} {mem : List Nat} {W : Nat} {rt : Value} {rd : List Nat} {la : List (List Nat)} {w : World} {cv : Value} {ds : List Nat} {sb : Bool} (self : List Nat) (r2 : Nat) (hE : StF wB c fbB E rr fb 120 3 cap fs0 m G ns mem W rt rd la w) (hH : Hard [c, fbB] wB) (hcv : NatV wB cv ds) (hfc : FrB fs0 120 sb cv) (hm : ds[m]? = some 51) (hl : ds.length ≤ 1000) (hns : ns.length ≤ 20) (hm1 : m ≤ 900) (hkG : 2 ≤ G) (hG : G ≤ 1000000) (hr2 : r2 ≤ rr) (hr3 : r2 ≤ ns.length) (hself : ∀ i x, self[i]? = some x → fs0[120 + 32 + i]? = some (n8 x)) (hl20 : self.length = 20) (hsm : Small self) :
    Calls Salg.prog 27 #[.pointer (some ⟨c, 0, none⟩)] w fun e w' => e = .returned (.bool true) ∧ StF wB c fbB E r2 fb 120 3 cap fs0 (m + 1) (G - 2) (ns ++ [(be self)]) mem W rt rd la w' := by
  obtain ⟨S, mv, hS⟩ := hE
  obtain ⟨cs, c1, c9, c10, c11, cn⟩ := hS.ch.row
  obtain ⟨mp, mc, em⟩ := hS.mm.cell
  have hG2 : G < 256 ^ 100 := Nat.lt_of_le_of_lt hG (by decide)
  have hcw := hcv.keptN hS.k hH
  have hwle := hS.wle
  refine stepB_plain3 S rr c fb m G 2 0 2 0 0 0 51 cs fs0 cap _ cv mv ds (fun w' => FrameM S rr w' fb 120 fs0 m (G - 2) ns mv) _ (fun _ _ => True) w (by decide) c1 c9 c11 hS.sl hS.fr hcw hm hl sb hfc hkG (Nat.lt_of_lt_of_le hG2 (by decide)) ?_ ?_ ?_ family_caller (by decide) ?_
  · intro w' K1
    have hF := hS.fr.kept K1
    refine refusalB_caller _ fb 120 m G 2 fs0 cv _ _ w' hF.toQ sb hfc (by simp) (by (try simp); omega) hkG fun w1 K2 => ?_
    obtain ⟨fs, f1, _, _, f9, _⟩ := (hF.kept K2).row
    rw [em] at f9
    refine costM_no _ fb 120 51 2 0 mem.length W fs mp mc w1 f1 f9 (by decide) hS.len (by omega) (by decide) (Nat.zero_le _) (fun w2 K3 => ?_) (fun w2 K3 => ?_)
    · exact bareCost_caller _ _ w2
    · refine (reach_caller _ w2).mono ?_
      rintro e w3 ⟨rfl, rfl⟩
      exact ⟨_, rfl, nil_num _, Kept.refl _ _⟩
  · intro w' K1 hF
    refine (reach_caller _ w').mono ?_
    rintro e w3 ⟨rfl, rfl⟩
    exact ⟨_, rfl, nil_num _, Kept.refl _ _⟩
  · intro w' r K1 hF hr
    obtain ⟨fs, f1, _, _, f9, _⟩ := hF.row
    rw [em] at f9
    refine (growM_no fb 120 0 mem.length W fs mp mc r w' f1 f9 hr hS.len (by omega) (by decide) (Nat.zero_le _)).mono ?_
    rintro e w3 ⟨r', rfl, K⟩
    exact ⟨r', rfl, hF.kept K, K.mono (by simp)⟩
  · intro w' K1 hF
    have hS2 := hS.frame K1 hF
    have hcw2 := hcv.keptN hS2.k hH
    refine (plainM_caller S rr r2 _ fb 120 m (G - 2) 0 0 0 0 (be self) fs0 mv ns w' hS2.sl hF (by omega) (by omega) hr2 hr3 fun w1 ab args K2 e1  => ?_).mono ?_
    · have hF1 := hF.kept K2
      have hS3 := hS2.kept K2
      obtain ⟨fs, f1, _, f2, _, _⟩ := hF1.row
      exact valueM_caller _ nilS nilS 0 fb 120 ab 0 #[] fs args self w1 f1 (fun i x hx => (f2 (120 + 32 + i) (by omega) (by omega) (by omega) (by omega)).trans (hself i x hx)) hl20 hsm
    · skip
      rintro e w'' ⟨r, rfl, K2, hF2⟩
      exact ⟨r, rfl, S, mv, hS2.frame K2 hF2⟩
theorem stepY_callvalue3 {wB : World} {c fbB : Nat} {E : XEnv} {rr fb cap : Nat} {fs0 : Array Value} {m G : Nat} {ns : List Nat} {mem : List Nat} {W : Nat} {rt : Value} {rd : List Nat} {la : List (List Nat)} {w : World} {cv : Value} {ds : List Nat} {sb : Bool} (A : Nat) (vv : Value) (r2 : Nat) (hE : StF wB c fbB E rr fb 120 3 cap fs0 m G ns mem W rt rd la w) (hH : Hard [c, fbB] wB) (hcv : NatV wB cv ds) (hfc : FrB fs0 120 sb cv) (hm : ds[m]? = some 52) (hl : ds.length ≤ 1000) (hns : ns.length ≤ 20) (hm1 : m ≤ 900) (hkG : 2 ≤ G) (hG : G ≤ 1000000) (hr2 : r2 ≤ rr) (hr3 : r2 ≤ ns.length) (h5 : fs0[120 + 5]? = some vv) (hvv : NumV wB vv A) :
    Calls Salg.prog 27 #[.pointer (some ⟨c, 0, none⟩)] w fun e w' => e = .returned (.bool true) ∧ StF wB c fbB E r2 fb 120 3 cap fs0 (m + 1) (G - 2) (ns ++ [A]) mem W rt rd la w' := by
  obtain ⟨S, mv, hS⟩ := hE
  obtain ⟨cs, c1, c9, c10, c11, cn⟩ := hS.ch.row
  obtain ⟨mp, mc, em⟩ := hS.mm.cell
  have hG2 : G < 256 ^ 100 := Nat.lt_of_le_of_lt hG (by decide)
  have hcw := hcv.keptN hS.k hH
  have hwle := hS.wle
  refine stepB_plain3 S rr c fb m G 2 0 2 0 0 0 52 cs fs0 cap _ cv mv ds (fun w' => FrameM S rr w' fb 120 fs0 m (G - 2) ns mv) _ (fun _ _ => True) w (by decide) c1 c9 c11 hS.sl hS.fr hcw hm hl sb hfc hkG (Nat.lt_of_lt_of_le hG2 (by decide)) ?_ ?_ ?_ family_callvalue (by decide) ?_
  · intro w' K1
    have hF := hS.fr.kept K1
    refine refusalB_callvalue _ fb 120 m G 2 fs0 cv _ _ w' hF.toQ sb hfc (by simp) (by (try simp); omega) hkG fun w1 K2 => ?_
    obtain ⟨fs, f1, _, _, f9, _⟩ := (hF.kept K2).row
    rw [em] at f9
    refine costM_no _ fb 120 52 2 0 mem.length W fs mp mc w1 f1 f9 (by decide) hS.len (by omega) (by decide) (Nat.zero_le _) (fun w2 K3 => ?_) (fun w2 K3 => ?_)
    · exact bareCost_callvalue _ _ w2
    · refine (reach_callvalue _ w2).mono ?_
      rintro e w3 ⟨rfl, rfl⟩
      exact ⟨_, rfl, nil_num _, Kept.refl _ _⟩
  · intro w' K1 hF
    refine (reach_callvalue _ w').mono ?_
    rintro e w3 ⟨rfl, rfl⟩
    exact ⟨_, rfl, nil_num _, Kept.refl _ _⟩
  · intro w' r K1 hF hr
    obtain ⟨fs, f1, _, _, f9, _⟩ := hF.row
    rw [em] at f9
    refine (growM_no fb 120 0 mem.length W fs mp mc r w' f1 f9 hr hS.len (by omega) (by decide) (Nat.zero_le _)).mono ?_
    rintro e w3 ⟨r', rfl, K⟩
    exact ⟨r', rfl, hF.kept K, K.mono (by simp)⟩
  · intro w' K1 hF
    have hS2 := hS.frame K1 hF
    have hcw2 := hcv.keptN hS2.k hH
    refine (plainM_callvalue S rr r2 _ fb 120 m (G - 2) 0 0 0 0 A fs0 mv ns w' hS2.sl hF (by omega) (by omega) hr2 hr3 fun w1 ab args K2 e1  => ?_).mono ?_
    · have hF1 := hF.kept K2
      have hS3 := hS2.kept K2
      obtain ⟨fs, f1, _, f2, _, _⟩ := hF1.row
      exact valueM_callvalue _ nilS vv 0 fb 120 ab A #[] fs args [] w1 f1 ((f2 (120 + 5) (by omega) (by omega) (by omega) (by omega)).trans h5) (hvv.keptN hS3.k hH)
    · skip
      rintro e w'' ⟨r, rfl, K2, hF2⟩
      exact ⟨r, rfl, S, mv, hS2.frame K2 hF2⟩
theorem stepY_origin3 {wB : World} {c fbB : Nat} {E : XEnv} {rr fb cap : Nat} {fs0 : Array Value} {m G : Nat} {ns : List Nat} {mem : List Nat} {W : Nat} {rt : Value} {rd : List Nat} {la : List (List Nat)} {w : World} {cv : Value} {ds : List Nat} {sb : Bool} (r2 : Nat) (hE : StF wB c fbB E rr fb 120 3 cap fs0 m G ns mem W rt rd la w) (hH : Hard [c, fbB] wB) (hcv : NatV wB cv ds) (hfc : FrB fs0 120 sb cv) (hm : ds[m]? = some 50) (hl : ds.length ≤ 1000) (hns : ns.length ≤ 20) (hm1 : m ≤ 900) (hkG : 2 ≤ G) (hG : G ≤ 1000000) (hr2 : r2 ≤ rr) (hr3 : r2 ≤ ns.length) :
    Calls Salg.prog 27 #[.pointer (some ⟨c, 0, none⟩)] w fun e w' => e = .returned (.bool true) ∧ StF wB c fbB E r2 fb 120 3 cap fs0 (m + 1) (G - 2) (ns ++ [(be (ad 240))]) mem W rt rd la w' := by
  obtain ⟨S, mv, hS⟩ := hE
  obtain ⟨cs, c1, c9, c10, c11, cn⟩ := hS.ch.row
  obtain ⟨mp, mc, em⟩ := hS.mm.cell
  have hG2 : G < 256 ^ 100 := Nat.lt_of_le_of_lt hG (by decide)
  have hcw := hcv.keptN hS.k hH
  have hwle := hS.wle
  refine stepB_plain3 S rr c fb m G 2 0 2 0 0 0 50 cs fs0 cap _ cv mv ds (fun w' => FrameM S rr w' fb 120 fs0 m (G - 2) ns mv) _ (fun _ _ => True) w (by decide) c1 c9 c11 hS.sl hS.fr hcw hm hl sb hfc hkG (Nat.lt_of_lt_of_le hG2 (by decide)) ?_ ?_ ?_ family_origin (by decide) ?_
  · intro w' K1
    have hF := hS.fr.kept K1
    refine refusalB_origin _ fb 120 m G 2 fs0 cv _ _ w' hF.toQ sb hfc (by simp) (by (try simp); omega) hkG fun w1 K2 => ?_
    obtain ⟨fs, f1, _, _, f9, _⟩ := (hF.kept K2).row
    rw [em] at f9
    refine costM_no _ fb 120 50 2 0 mem.length W fs mp mc w1 f1 f9 (by decide) hS.len (by omega) (by decide) (Nat.zero_le _) (fun w2 K3 => ?_) (fun w2 K3 => ?_)
    · exact bareCost_origin _ _ w2
    · refine (reach_origin _ w2).mono ?_
      rintro e w3 ⟨rfl, rfl⟩
      exact ⟨_, rfl, nil_num _, Kept.refl _ _⟩
  · intro w' K1 hF
    refine (reach_origin _ w').mono ?_
    rintro e w3 ⟨rfl, rfl⟩
    exact ⟨_, rfl, nil_num _, Kept.refl _ _⟩
  · intro w' r K1 hF hr
    obtain ⟨fs, f1, _, _, f9, _⟩ := hF.row
    rw [em] at f9
    refine (growM_no fb 120 0 mem.length W fs mp mc r w' f1 f9 hr hS.len (by omega) (by decide) (Nat.zero_le _)).mono ?_
    rintro e w3 ⟨r', rfl, K⟩
    exact ⟨r', rfl, hF.kept K, K.mono (by simp)⟩
  · intro w' K1 hF
    have hS2 := hS.frame K1 hF
    have hcw2 := hcv.keptN hS2.k hH
    refine (plainM_origin S rr r2 _ fb 120 m (G - 2) 0 0 0 0 (be (ad 240)) fs0 mv ns w' hS2.sl hF (by omega) (by omega) hr2 hr3 fun w1 ab args K2 e1  => ?_).mono ?_
    · have hF1 := hF.kept K2
      have hS3 := hS2.kept K2
      obtain ⟨fs, f1, _, f2, _, _⟩ := hF1.row
      obtain ⟨wz, k1, _⟩ := hS3.ch
      exact valueM_origin nilS nilS nilS c fb 120 ab 0 _ fs args (ad 240) w1 f1 k1 (chN_orig _ _ _ _) rfl smallAd240
    · skip
      rintro e w'' ⟨r, rfl, K2, hF2⟩
      exact ⟨r, rfl, S, mv, hS2.frame K2 hF2⟩
theorem stepY_returndatasize3 {wB : World} {c fbB : Nat} {E : XEnv} {rr fb cap : Nat} {fs0 : Array Value} {m G : Nat} {ns : List Nat} {mem : List Nat} {W : Nat} {rt : Value} {rd : List Nat} {la : List (List Nat)} {w : World} {cv : Value} {ds : List Nat} {sb : Bool} (r2 : Nat) (hE : StF wB c fbB E rr fb 120 3 cap fs0 m G ns mem W rt rd la w) (hH : Hard [c, fbB] wB) (hcv : NatV wB cv ds) (hfc : FrB fs0 120 sb cv) (hm : ds[m]? = some 61) (hl : ds.length ≤ 1000) (hns : ns.length ≤ 20) (hm1 : m ≤ 900) (hkG : 2 ≤ G) (hG : G ≤ 1000000) (hr2 : r2 ≤ rr) (hr3 : r2 ≤ ns.length) (hrd : rd.length ≤ 100000) :
    Calls Salg.prog 27 #[.pointer (some ⟨c, 0, none⟩)] w fun e w' => e = .returned (.bool true) ∧ StF wB c fbB E r2 fb 120 3 cap fs0 (m + 1) (G - 2) (ns ++ [rd.length]) mem W rt rd la w' := by
  obtain ⟨S, mv, hS⟩ := hE
  obtain ⟨cs, c1, c9, c10, c11, cn⟩ := hS.ch.row
  obtain ⟨mp, mc, em⟩ := hS.mm.cell
  have hG2 : G < 256 ^ 100 := Nat.lt_of_le_of_lt hG (by decide)
  have hcw := hcv.keptN hS.k hH
  have hwle := hS.wle
  refine stepB_plain3 S rr c fb m G 2 0 2 0 0 0 61 cs fs0 cap _ cv mv ds (fun w' => FrameM S rr w' fb 120 fs0 m (G - 2) ns mv) _ (fun _ _ => True) w (by decide) c1 c9 c11 hS.sl hS.fr hcw hm hl sb hfc hkG (Nat.lt_of_lt_of_le hG2 (by decide)) ?_ ?_ ?_ family_returndatasize (by decide) ?_
  · intro w' K1
    have hF := hS.fr.kept K1
    refine refusalB_returndatasize _ fb 120 m G 2 fs0 cv _ _ w' hF.toQ sb hfc (by simp) (by (try simp); omega) hkG fun w1 K2 => ?_
    obtain ⟨fs, f1, _, _, f9, _⟩ := (hF.kept K2).row
    rw [em] at f9
    refine costM_no _ fb 120 61 2 0 mem.length W fs mp mc w1 f1 f9 (by decide) hS.len (by omega) (by decide) (Nat.zero_le _) (fun w2 K3 => ?_) (fun w2 K3 => ?_)
    · exact bareCost_returndatasize _ _ w2
    · refine (reach_returndatasize _ w2).mono ?_
      rintro e w3 ⟨rfl, rfl⟩
      exact ⟨_, rfl, nil_num _, Kept.refl _ _⟩
  · intro w' K1 hF
    refine (reach_returndatasize _ w').mono ?_
    rintro e w3 ⟨rfl, rfl⟩
    exact ⟨_, rfl, nil_num _, Kept.refl _ _⟩
  · intro w' r K1 hF hr
    obtain ⟨fs, f1, _, _, f9, _⟩ := hF.row
    rw [em] at f9
    refine (growM_no fb 120 0 mem.length W fs mp mc r w' f1 f9 hr hS.len (by omega) (by decide) (Nat.zero_le _)).mono ?_
    rintro e w3 ⟨r', rfl, K⟩
    exact ⟨r', rfl, hF.kept K, K.mono (by simp)⟩
  · intro w' K1 hF
    have hS2 := hS.frame K1 hF
    have hcw2 := hcv.keptN hS2.k hH
    refine (plainM_returndatasize S rr r2 _ fb 120 m (G - 2) 0 0 0 0 rd.length fs0 mv ns w' hS2.sl hF (by omega) (by omega) hr2 hr3 fun w1 ab args K2 e1  => ?_).mono ?_
    · have hF1 := hF.kept K2
      have hS3 := hS2.kept K2
      obtain ⟨fs, f1, _, f2, _, _⟩ := hF1.row
      obtain ⟨cs1, k1, _, k10, _, _⟩ := hS3.ch.row
      obtain ⟨rp, rc, er, _⟩ := hS3.rt.1
      rw [er] at k10
      exact valueM_returndatasize nilS nilS nilS rp rc c fb 120 ab rd.length cs1 fs args [] w1 f1 k1 k10 hrd
    · skip
      rintro e w'' ⟨r, rfl, K2, hF2⟩
      exact ⟨r, rfl, S, mv, hS2.frame K2 hF2⟩
end Go.Proofs.YgcsalGreat

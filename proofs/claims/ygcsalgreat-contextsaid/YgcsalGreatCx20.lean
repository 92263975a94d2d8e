/-
  Runs of Context: how a frame returns, what is known behind it.
-/
import Derived.Test.YgcsalGreatCx17
set_option linter.unusedSimpArgs false
set_option linter.unusedVariables false
namespace Go.Own
open Go.Proofs.YgcsalGreat
/-- What does not change in the chain's row in a run. -/
structure EnvD (w : World) (E : XEnv) (T : Nat) : Prop where
  md : E.md = nilS
  ma : E.ma = z20
  lim : NumV w E.lim 200000
  pr : NumV w E.pr 0
  tv : NumV w E.tv T
  gv : E.gv.oneCell' = true
theorem EnvD.keptN {X : List Nat} {w w' : World} {E : XEnv} {T : Nat} (h : EnvD w E T) (k : Kept X w w') (hX : Hard X w) : EnvD w' E T := ⟨h.md, h.ma, h.lim.keptN k hX, h.pr.keptN k hX, h.tv.keptN k hX, h.gv⟩
theorem EnvD.with {w : World} {E : XEnv} {T : Nat} (h : EnvD w E T) (v : Value) : EnvD w { E with vz := v } T := ⟨h.md, h.ma, h.lim, h.pr, h.tv, h.gv⟩
/-- The end of a run. -/
def EndD (w : World) (c T : Nat) (out : List Nat) (D : List AD) : Prop := ∃ (E : XEnv) (G : Nat) (la : List (List Nat)), G ≤ 200000 ∧ EndY w c E G out la ∧ AccD D w E.vz ∧ EnvD w E T
theorem EndY.kept {w w' : World} {c G : Nat} {E : XEnv} {out : List Nat} {la : List (List Nat)} (h : EndY w c E G out la) (K : Kept [] w w') : EndY w' c E G out la := by
  obtain ⟨wz, rt, lf, h1, h2, h3, h4⟩ := h
  exact ⟨wz, rt, lf, K.row h1 (by simp), h2.kept K, h3.kept K, h4.kept K⟩
theorem hard_nil (w : World) : Hard [] w := fun x hx => by cases hx
theorem EndD.kept {w w' : World} {c T : Nat} {out : List Nat} {D : List AD} (h : EndD w c T out D) (K : Kept [] w w') : EndD w' c T out D := by
  obtain ⟨E, G, la, h1, h2, h3, h4⟩ := h
  exact ⟨E, G, la, h1, h2.kept K, (AccD.still D) _ _ _ _ h3 K (hard_nil w), h4.keptN K (hard_nil w)⟩
/-- The base of a run lies behind the world w0. -/
structure Bas (w0 : World) (c fbB : Nat) (wB : World) : Prop where
  k : Kept [c] w0 wB
  f : w0.heap.size ≤ fbB
theorem Bas.to {w0 wB w : World} {c fbB : Nat} (h : Bas w0 c fbB wB) (K : Kept [c, fbB] wB w) : Kept [c] w0 w := by
  refine ⟨K.os.trans h.k.os, K.tape.trans h.k.tape, K.output.trans h.k.output, Nat.le_trans h.k.size K.size, fun i hi hx => ?_⟩
  have h2 := h.f
  rw [K.block i (Nat.lt_of_lt_of_le hi h.k.size) (by simp at hx ⊢; exact ⟨hx, by omega⟩)]
  exact h.k.block i hi hx
theorem Bas.next {w0 wB w : World} {c fbB fb : Nat} (h : Bas w0 c fbB wB) (K : Kept [c, fbB] wB w) (hb : fb = fbB ∨ wB.heap.size ≤ fb) : Bas w0 c fb w := by
  refine ⟨h.to K, ?_⟩
  rcases hb with rfl | hb
  · exact h.f
  · exact Nat.le_trans h.k.size hb
theorem kept_new {wB wC w : World} {c fbB fb : Nat} (K : Kept [c, fbB] wB wC) (hb : fb = fbB ∨ wB.heap.size ≤ fb) (K2 : Kept [c, fb] wC w) : Kept [c, fbB] wB w := by
  refine ⟨K2.os.trans K.os, K2.tape.trans K.tape, K2.output.trans K.output, Nat.le_trans K.size K2.size, fun i hi hx => ?_⟩
  rw [K2.block i (Nat.lt_of_lt_of_le hi K.size) ?_]
  · exact K.block i hi hx
  · simp at hx ⊢
    rcases hb with rfl | hb
    · exact hx
    · exact ⟨hx.1, by omega⟩
theorem ext_same20 {fs1 fs0 : Array Value} {a : Nat} (h1 : a + 20 ≤ fs1.size) (h0 : a + 20 ≤ fs0.size) (h : ∀ k, a ≤ k → k < a + 20 → fs1[k]? = fs0[k]?) : fs1.extract a (a + 20) = fs0.extract a (a + 20) := by
  refine Array.ext_getElem? fun i => ?_
  rw [Array.getElem?_extract, Array.getElem?_extract, Nat.min_eq_left h1, Nat.min_eq_left h0]
  split
  · exact h _ (by omega) (by omega)
  · rfl
/-- A frame's run goes on in a later world. -/
theorem RunY.back {wB w : World} {c fbB fb q : Nat} {sb : Bool} {cv : Value} {ds : List Nat} {fs0 fs1 : Array Value} {sf cl : List Nat} (R : RunY wB c fbB q sb cv ds fs0 sf cl) (K : Kept [c, fbB] wB w) (hH : Hard [c, fb] w) (hz : q + 60 ≤ fs1.size) (h : ∀ k, k < 60 → k ≠ 3 → k ≠ 4 → k ≠ 6 → k ≠ 7 → k ≠ 8 → k ≠ 9 → fs1[q + k]? = fs0[q + k]?) : RunY w c fb q sb cv ds fs1 sf cl := by
  obtain ⟨f1, f2, f10, fz⟩ := R.fd
  refine ⟨hH, R.code.keptN K R.hard, ⟨?_, ?_, ?_, hz⟩, R.len, ?_, ?_, R.sl, R.cl⟩
  · rw [h 1 (by decide) (by decide) (by decide) (by decide) (by decide) (by decide) (by decide)]; exact f1
  · rw [h 2 (by decide) (by decide) (by decide) (by decide) (by decide) (by decide) (by decide)]; exact f2
  · rw [h 10 (by decide) (by decide) (by decide) (by decide) (by decide) (by decide) (by decide)]; exact f10
  · rw [← R.se]
    refine ext_same20 (by omega) (by omega) fun k h1 h2 => ?_
    have e := h (k - q) (by omega) (by omega) (by omega) (by omega) (by omega) (by omega) (by omega)
    rw [Nat.add_sub_of_le (by omega)] at e
    exact e
  · rw [← R.ca]
    refine ext_same20 (by omega) (by omega) fun k h1 h2 => ?_
    have e := h (k - q) (by omega) (by omega) (by omega) (by omega) (by omega) (by omega) (by omega)
    rw [Nat.add_sub_of_le (by omega)] at e
    exact e
theorem growB_128 {mem : List Nat} (h : mem.length = 128) : growB mem (endN 0 128) = mem := by
  unfold growB
  rw [show endN 0 128 = 128 from rfl, show wds 128 = 4 from rfl, h]
  simp
end Go.Own
namespace Go.Proofs.YgcsalGreat
open Go.RowKit Go.Own
/-- View shows the probe's frame. -/
def SeesIt (c d : Nat) (sb : Bool) (sf cl : List Nat) (w : World) : Prop := ∀ w1, Kept [] w w1 → Calls Salg.prog 20 #[.pointer (some ⟨c, 0, none⟩)] w1 fun e w' => ∃ (G : Nat) (sv mv rv : Value), e = .returned (.agg (vwG sb d 0 G sf cl sv mv rv).toArray) ∧ sv.oneCell' = true ∧ mv.oneCell' = true ∧ rv.oneCell' = true ∧ Kept [] w1 w'
/-- The probe begins here, and the run behind it ends with Q. -/
def AtProbe (c d : Nat) (sb : Bool) (sf cl : List Nat) (Q : World → Prop) (w : World) : Prop := SeesIt c d sb sf cl w ∧ ∃ j f, f < w.heap.size ∧ ∀ w1, Kept [] w w1 → Play c (fun w2 => Q w2 ∧ Kept [c, f] w1 w2) j w1
theorem play_endD {w0 w : World} {c T : Nat} {out : List Nat} {D : List AD} {w1 : World} {f : Nat} (h : EndD w c T out D) (K : Kept [c] w0 w) (K' : Kept [c, f] w1 w) : Play c (fun w2 => (EndD w2 c T out D ∧ Kept [c] w0 w2) ∧ Kept [c, f] w1 w2) 0 w := by
  have h3 := h
  obtain ⟨E, G, la, _, ⟨wz, rt, lf, e1, _⟩, _⟩ := h3
  refine (step_done c _ w e1 (by kernel_rfl)).mono ?_
  rintro e w' ⟨rfl, K2⟩
  exact ⟨rfl, ⟨h.kept K2, K.trans (K2.mono (by simp))⟩, K'.trans (K2.mono (by simp))⟩
theorem hard_of {w : World} {c fb n cap : Nat} {E : XEnv} {rt mv : Value} {la : List (List Nat)} {q m G : Nat} {fs : Array Value} {ns : List Nat} (hC : ChY w c E (.slice (some ⟨fb, 0, none⟩) n cap) rt la) (hF : FrameQ w fb q fs m G ns mv) : Hard [c, fb] w := by
  obtain ⟨wz, c1, _⟩ := hC
  obtain ⟨fs', pv, gv, sv, xs, h1, h0, h2, h3, h4, h5, h6, h7, h8, h9, ha⟩ := hF
  intro x hx
  simp only [List.mem_cons, List.mem_singleton, List.not_mem_nil, or_false] at hx
  rcases hx with rfl | rfl
  · exact ⟨_, 119, c1, .inl rfl, chy_nb _ _ _ _⟩
  · obtain ⟨ds, ⟨p, c', rfl, _⟩, _⟩ := h4
    exact ⟨_, 142, h1, .inr rfl, not_bytes_at (tc := 142) (i := q + 3) (p := p) (n := _) (m := c') h3⟩
theorem ret1 {wB w0 : World} {c fbB : Nat} {E : XEnv} {fb cap : Nat} {fs0 : Array Value} {m G : Nat} {mem : List Nat} {rt : Value} {rd : List Nat} {la : List (List Nat)} {w : World} {cv : Value} {ds sf cl : List Nat} {sb : Bool} {kd T : Nat} {D : List AD} (R : RunY wB c fbB 0 sb cv ds fs0 sf cl) (h : StF wB c fbB E 0 fb 0 1 cap fs0 m G [128, 0] mem 4 rt rd la w) (hm : ds[m]? = some 243) (hm1 : m ≤ 900) (hG2 : G ≤ 200000) (hl : mem.length = 128) (hkd : fs0[0 + 0]? = some (.int .u8 (kd : Int))) (hcr : ∀ w, Calls Salg.prog 172 #[.int .u8 (kd : Int)] w fun e w' => e = .returned (.bool false) ∧ w' = w) (hone : ∀ k u, k < 60 → fs0[0 + k]? = some u → u.oneCell' = true) (hsz : cap * 60 ≤ fs0.size) (hcap : 1 ≤ cap) (hcap2 : cap ≤ maxLen) (acc : AccD D wB E.vz) (env : EnvD wB E T) (bas : Bas w0 c fbB wB) {w1 : World} {f : Nat} (hk1 : ∀ w, Kept [c, fbB] wB w → Kept [c, f] w1 w) : Play c (fun w2 => (EndD w2 c T mem D ∧ Kept [c] w0 w2) ∧ Kept [c, f] w1 w2) 1 w := by
  have g : growC 4 (endN 0 128) = 0 := by decide
  refine Play.step (P := fun w' => (EndD w' c T mem D ∧ Kept [c] w0 w') ∧ Kept [c, f] w1 w') (stepY_return1 (ns := []) 128 0 _ h R.hard R.code R.fd hm R.len (by simp) hm1 (by rw [g]; omega) (by omega) (by simp) (by omega) (by omega) ?_) fun w' hx => play_endD hx.1.1 hx.1.2 hx.2
  intro w' u S' mv' hS hu hu2
  rw [growB_128 hl, cutB_whole hl] at hu
  have o4 : mv'.oneCell' = true := by
    obtain ⟨mp, mc, em⟩ := hS.mm.cell
    rw [em]
    rfl
  refine (leaveY_ok c fb cap kd 0 0 m _ fs0 _ la E rt nilS nilS nilS nilS nilS mv' u mem w' hS.ch hS.fr.toQ hkd hcr hone o4 hsz hcap hcap2 hu).mono ?_
  rintro e w'' ⟨r, rfl, hE, K⟩
  have k2 : Kept [c, fbB] wB w'' := hS.k.trans (K.mono (by simp))
  exact ⟨r, rfl, ⟨⟨E, _, la, Nat.le_trans (Nat.sub_le _ _) hG2, hE, (AccD.still D) _ _ _ _ acc k2 R.hard, env.keptN k2 R.hard⟩, bas.to k2⟩, hk1 _ k2⟩
theorem ret2 {wB : World} {c fbB : Nat} {E : XEnv} {fb cap : Nat} {fs0 : Array Value} {m G : Nat} {mem : List Nat} {rt : Value} {rd : List Nat} {la : List (List Nat)} {w : World} {cv : Value} {ds sf cl : List Nat} {sb : Bool} {kd j m1 G1 : Nat} {pv gv sv r7 : Value} {Q : World → Prop} (R : RunY wB c fbB 60 sb cv ds fs0 sf cl) (h : StF wB c fbB E 0 fb 60 2 cap fs0 m G [128, 0] mem 4 rt rd la w) (hm : ds[m]? = some 243) (hm1 : m ≤ 900) (hG2 : G ≤ 200000) (hl : mem.length = 128) (hkd : fs0[60 + 0]? = some (.int .u8 (kd : Int))) (hcr : ∀ w, Calls Salg.prog 172 #[.int .u8 (kd : Int)] w fun e w' => e = .returned (.bool false) ∧ w' = w) (hone : ∀ k u, k < 60 → fs0[60 + k]? = some u → u.oneCell' = true) (hsz : cap * 60 ≤ fs0.size) (hcap : 2 ≤ cap) (hcap2 : cap ≤ maxLen) (P1 : PartsV wB pv gv sv [] m1 G1 []) (p3 : fs0[0 + 3]? = some pv) (p4 : fs0[0 + 4]? = some gv) (p7 : fs0[0 + 7]? = some r7) (p8 : fs0[0 + 8]? = some sv) (p9 : fs0[0 + 9]? = some nilS) (n7 : NumV wB r7 0) (hmm : m1 ≤ 900) (hGG : G1 ≤ 200000)
    (k : ∀ w' fs1 u, StF w' c fb E 0 fb 0 1 1 fs1 (m1 + 1) (G1 + G) [1] [] 0 u mem la w' → Hard [c, fb] w' → (∀ k, k < 60 → fs1[k]? = fs0[k]?) → fs1.size = fs0.size → Kept [c, fbB] wB w' → (fb = fbB ∨ wB.heap.size ≤ fb) → Play c Q j w') : Play c Q (j + 1) w := by
  have g : growC 4 (endN 0 128) = 0 := by decide
  refine Play.step (P := fun w' => ∃ fs1 u, StF w' c fb E 0 fb 0 1 1 fs1 (m1 + 1) (G1 + G) [1] [] 0 u mem la w' ∧ Hard [c, fb] w' ∧ (∀ k, k < 60 → fs1[k]? = fs0[k]?) ∧ fs1.size = fs0.size ∧ Kept [c, fbB] wB w' ∧ (fb = fbB ∨ wB.heap.size ≤ fb)) (stepY_return2 (ns := []) 128 0 _ h R.hard R.code R.fd hm R.len (by simp) hm1 (by rw [g]; omega) (by omega) (by simp) (by omega) (by omega) ?_) fun w' ⟨fs1, u, h1, h2, h3, h4, h5, h6⟩ => k w' fs1 u h1 h2 h3 h4 h5 h6
  intro w' u S' mv' hS hu hu2
  rw [growB_128 hl, cutB_whole hl] at hu
  have o4 : mv'.oneCell' = true := by
    obtain ⟨mp, mc, em⟩ := hS.mm.cell
    rw [em]
    rfl
  rw [g] at hS
  have big : 200000 < 256 ^ 100 := by decide
  refine (leaveY_in2 c fb cap kd m1 G1 m (G - (0 + 0)) fs0 _ la E rt pv gv sv r7 nilS mv' u mem w' hS.ch hS.fr.toQ hkd hcr hone o4 hsz hcap hcap2 hu (P1.keptN hS.k R.hard) p3 p4 p7 p8 p9 (n7.keptN hS.k R.hard) hmm (Nat.lt_of_le_of_lt hGG big) (Nat.lt_of_le_of_lt (Nat.le_trans (Nat.sub_le _ _) hG2) big) (by omega)).mono ?_
  rintro e w'' ⟨r, fs1, rfl, hC, hF, hk, hz, hN, K⟩
  exact ⟨r, rfl, fs1, u, state_back 0 (Kept.refl _ _) hC hF hN, hard_of hC hF, hk, hz, kept_new hS.k hS.b K, hS.b⟩
theorem ret3 {wB : World} {c fbB : Nat} {E : XEnv} {fb cap : Nat} {fs0 : Array Value} {m G : Nat} {mem : List Nat} {rt : Value} {rd : List Nat} {la : List (List Nat)} {w : World} {cv : Value} {ds sf cl : List Nat} {sb : Bool} {kd j m1 G1 : Nat} {pv gv sv r7 : Value} {Q : World → Prop} (R : RunY wB c fbB 120 sb cv ds fs0 sf cl) (h : StF wB c fbB E 0 fb 120 3 cap fs0 m G [128, 0] mem 4 rt rd la w) (hm : ds[m]? = some 243) (hm1 : m ≤ 900) (hG2 : G ≤ 200000) (hl : mem.length = 128) (hkd : fs0[120 + 0]? = some (.int .u8 (kd : Int))) (hcr : ∀ w, Calls Salg.prog 172 #[.int .u8 (kd : Int)] w fun e w' => e = .returned (.bool false) ∧ w' = w) (hone : ∀ k u, k < 60 → fs0[120 + k]? = some u → u.oneCell' = true) (hsz : cap * 60 ≤ fs0.size) (hcap : 3 ≤ cap) (hcap2 : cap ≤ maxLen) (P1 : PartsV wB pv gv sv [] m1 G1 []) (p3 : fs0[60 + 3]? = some pv) (p4 : fs0[60 + 4]? = some gv) (p7 : fs0[60 + 7]? = some r7) (p8 : fs0[60 + 8]? = some sv) (p9 : fs0[60 + 9]? = some nilS) (n7 : NumV wB r7 0) (hmm : m1 ≤ 900) (hGG : G1 ≤ 200000)
    (k : ∀ w' fs1 u, StF w' c fb E 0 fb 60 2 2 fs1 (m1 + 1) (G1 + G) [1] [] 0 u mem la w' → Hard [c, fb] w' → (∀ k, k < 120 → fs1[k]? = fs0[k]?) → fs1.size = fs0.size → Kept [c, fbB] wB w' → (fb = fbB ∨ wB.heap.size ≤ fb) → Play c Q j w') : Play c Q (j + 1) w := by
  have g : growC 4 (endN 0 128) = 0 := by decide
  refine Play.step (P := fun w' => ∃ fs1 u, StF w' c fb E 0 fb 60 2 2 fs1 (m1 + 1) (G1 + G) [1] [] 0 u mem la w' ∧ Hard [c, fb] w' ∧ (∀ k, k < 120 → fs1[k]? = fs0[k]?) ∧ fs1.size = fs0.size ∧ Kept [c, fbB] wB w' ∧ (fb = fbB ∨ wB.heap.size ≤ fb)) (stepY_return3 (ns := []) 128 0 _ h R.hard R.code R.fd hm R.len (by simp) hm1 (by rw [g]; omega) (by omega) (by simp) (by omega) (by omega) ?_) fun w' ⟨fs1, u, h1, h2, h3, h4, h5, h6⟩ => k w' fs1 u h1 h2 h3 h4 h5 h6
  intro w' u S' mv' hS hu hu2
  rw [growB_128 hl, cutB_whole hl] at hu
  have o4 : mv'.oneCell' = true := by
    obtain ⟨mp, mc, em⟩ := hS.mm.cell
    rw [em]
    rfl
  rw [g] at hS
  have big : 200000 < 256 ^ 100 := by decide
  refine (leaveY_in3 c fb cap kd m1 G1 m (G - (0 + 0)) fs0 _ la E rt pv gv sv r7 nilS mv' u mem w' hS.ch hS.fr.toQ hkd hcr hone o4 hsz hcap hcap2 hu (P1.keptN hS.k R.hard) p3 p4 p7 p8 p9 (n7.keptN hS.k R.hard) hmm (Nat.lt_of_le_of_lt hGG big) (Nat.lt_of_le_of_lt (Nat.le_trans (Nat.sub_le _ _) hG2) big) (by omega)).mono ?_
  rintro e w'' ⟨r, fs1, rfl, hC, hF, hk, hz, hN, K⟩
  exact ⟨r, rfl, fs1, u, state_back 0 (Kept.refl _ _) hC hF hN, hard_of hC hF, hk, hz, kept_new hS.k hS.b K, hS.b⟩
end Go.Proofs.YgcsalGreat

/-
  The end of a run, whatever was made; the run of kind 7.
-/
import Derived.Test.YgcsalGreatCx28
import Derived.Test.YgcsalGreatCx22
set_option linter.unusedSimpArgs false
set_option linter.unusedVariables false
namespace Go.Own
open Go.Proofs.YgcsalGreat
/-- The end of a run; ma is the address that the receipt tells. -/
def EndG (w : World) (c T : Nat) (out : List Nat) (D : List AD) (ma : List Nat) : Prop := ∃ (E : XEnv) (G : Nat) (la : List (List Nat)), G ≤ 200000 ∧ EndY w c E G out la ∧ AccD D w E.vz ∧ E.md.oneCell' = true ∧ E.ma = ma ∧ NumV w E.lim 200000 ∧ NumV w E.pr 0 ∧ NumV w E.tv T ∧ E.gv.oneCell' = true
theorem EndG.kept {w w' : World} {c T : Nat} {out : List Nat} {D : List AD} {ma : List Nat} (h : EndG w c T out D ma) (K : Kept [] w w') : EndG w' c T out D ma := by
  obtain ⟨E, G, la, h1, h2, h3, h4, h5, h6, h7, h8, h9⟩ := h
  exact ⟨E, G, la, h1, h2.kept K, (AccD.still D).kept h3 K, h4, h5, h6.kept K, h7.kept K, h8.kept K, h9⟩
theorem EndD.toG {w : World} {c T : Nat} {out : List Nat} {D : List AD} (h : EndD w c T out D) : EndG w c T out D z20 := by
  obtain ⟨E, G, la, h1, h2, h3, h4⟩ := h
  exact ⟨E, G, la, h1, h2, h3, by rw [h4.md]; rfl, h4.ma, h4.lim, h4.pr, h4.tv, h4.gv⟩
structure BegC (w0 w : World) (c fb cap : Nat) (E : XEnv) (cur : Array Value) (gv fv cw iu a0 a1 a3 a6 : Value) (v G : Nat) (la : List (List Nat)) (D : List AD) (T : Nat) : Prop where
  ch : ChY w c E (.slice (some ⟨fb, 0, none⟩) 1 cap) nilS la
  row : w.heap[fb]? = some (.cells cur 142 (0, 0))
  inn : ∀ k, k < 60 → cur[0 + k]? = (frG 1 false gv fv cw iu ha7 (ad 240) (wrow5 a0 a1 a3 a6))[k]?
  size : cur.size = cap * 60
  capM : cap ≤ maxLen
  cap1 : 1 ≤ cap
  one : a0.oneCell' = true ∧ a1.oneCell' = true ∧ a3.oneCell' = true ∧ a6.oneCell' = true
  g1 : 146600 ≤ G
  g2 : G ≤ 147000
  ngv : NumV w gv G
  nfv : NumV w fv v
  ncw : NatV w cw probeL
  niu : NatV w iu []
  acc : AccD D w E.vz
  md : E.md.oneCell' = true
  ma : E.ma = ha7
  lim : NumV w E.lim 200000
  pr : NumV w E.pr 0
  tv : NumV w E.tv T
  gv : E.gv.oneCell' = true
  bas : Bas w0 c fb w
end Go.Own
namespace Go.Proofs.YgcsalGreat
open Go.RowKit Go.Own
theorem _root_.Go.Own.BegC.kept {w0 w w' : World} {c fb cap : Nat} {E : XEnv} {cur : Array Value} {gv fv cw iu a0 a1 a3 a6 : Value} {v G : Nat} {la : List (List Nat)} {D : List AD} {T : Nat} (h : BegC w0 w c fb cap E cur gv fv cw iu a0 a1 a3 a6 v G la D T) (K : Kept [] w w') : BegC w0 w' c fb cap E cur gv fv cw iu a0 a1 a3 a6 v G la D T :=
  { h with ch := h.ch.kept K, row := K.row h.row (by simp), ngv := h.ngv.kept K, nfv := h.nfv.kept K, ncw := h.ncw.kept K, niu := h.niu.kept K, acc := (AccD.still D) _ _ _ _ h.acc K (hard_nil w), lim := h.lim.kept K, pr := h.pr.kept K, tv := h.tv.kept K, bas := ⟨h.bas.k.trans (K.mono (by simp)), h.bas.f⟩ }
theorem Play.imp {c : Nat} {Q Q' : World → Prop} (h : ∀ w, Q w → Q' w) : ∀ {j : Nat} {w : World}, Play c Q j w → Play c Q' j w
  | 0, _, hp => hp.mono fun e w' ⟨h1, h2⟩ => ⟨h1, h w' h2⟩
  | j + 1, _, hp => hp.mono fun e w' ⟨h1, h2⟩ => ⟨h1, Play.imp h h2⟩
theorem AtProbe.imp {c d : Nat} {sb : Bool} {sf cl : List Nat} {Q Q' : World → Prop} {w : World} (h : ∀ w, Q w → Q' w) (hp : AtProbe c d sb sf cl Q w) : AtProbe c d sb sf cl Q' w := by
  obtain ⟨h1, j, f, hf, h2⟩ := hp
  exact ⟨h1, j, f, hf, fun w1 K => (h2 w1 K).imp (fun w hq => ⟨h w hq.1, hq.2⟩)⟩
theorem Goes.imp {c d : Nat} {RR P P' : World → Prop} (h : ∀ w, P w → P' w) : ∀ {k : Nat} {w : World}, Goes c d RR P k w → Goes c d RR P' k w
  | 0, w, hp => ⟨hp.1, h w hp.2⟩
  | k + 1, _, hp => ⟨hp.1, hp.2.1, fun w1 K => (hp.2.2 w1 K).mono fun e w' ⟨h1, h2⟩ => ⟨h1, Goes.imp h h2⟩⟩
theorem play_endG {w0 w : World} {c T : Nat} {out : List Nat} {D : List AD} {ma : List Nat} {w1 : World} {f : Nat} (h : EndG w c T out D ma) (K : Kept [c] w0 w) (K' : Kept [c, f] w1 w) : Play c (fun w2 => (EndG w2 c T out D ma ∧ Kept [c] w0 w2) ∧ Kept [c, f] w1 w2) 0 w := by
  have h3 := h
  obtain ⟨E, G, la, _, ⟨wz, rt, lf, e1, _⟩, _⟩ := h3
  refine (step_done c _ w e1 (by kernel_rfl)).mono ?_
  rintro e w' ⟨rfl, K2⟩
  exact ⟨rfl, ⟨h.kept K2, K.trans (K2.mono (by simp))⟩, K'.trans (K2.mono (by simp))⟩
theorem begC_start {w0 w : World} {c fb cap : Nat} {E : XEnv} {cur : Array Value} {gv fv cw iu a0 a1 a3 a6 : Value} {v G : Nat} {la : List (List Nat)} {D : List AD} {T : Nat} (h : BegC w0 w c fb cap E cur gv fv cw iu a0 a1 a3 a6 v G la D T) :
    StF w c fb E 0 fb 0 1 cap cur 0 G [] [] 0 nilS [] la w ∧ RunY w c fb 0 false cw probeL cur ha7 (ad 240) := by
  have hz : 0 + 60 ≤ cur.size := by
    have h1 := h.size
    have h2 := h.cap1
    omega
  have e := h.inn
  have hF : FrameQ w fb 0 cur 0 G [] nilS := ⟨cur, nilS, gv, nilS, [], h.row, rfl, fun k _ _ _ _ => rfl, by rw [e 3 (by decide)]; rfl, nil_num _, by rw [e 4 (by decide)]; rfl, h.ngv, by rw [e 8 (by decide)]; rfl, .inl ⟨rfl, rfl⟩, ⟨rfl, fun k v n e => by simp at e⟩, by rw [e 9 (by decide)]; rfl⟩
  refine ⟨state_back 0 (Kept.refl _ _) h.ch hF (NatV.nil _), ?_⟩
  have hx := ext_frGL rfl rfl hz e
  exact ⟨hard_of h.ch hF, h.ncw, ⟨by rw [e 1 (by decide)]; rfl, by rw [e 2 (by decide)]; rfl, by rw [e 10 (by decide)]; rfl, hz⟩, by decide, hx.1, hx.2, rfl, rfl⟩
theorem crun_7 {w0 w : World} {c fb cap : Nat} {E : XEnv} {cur : Array Value} {gv fv cw iu a0 a1 a3 a6 : Value} {v G : Nat} {la : List (List Nat)} {D : List AD} {T : Nat} (B : BegC w0 w c fb cap E cur gv fv cw iu a0 a1 a3 a6 v G la D T) (hv : v < 256) (d : AD) (hd : D.find? (fun x => x.adr == ha7) = some d) (hN0 : d.N ≠ 0) (hll : D.length ≤ 400) :
    AtProbe c 0 false ha7 (ad 240) (fun w2 => EndG w2 c T [] (dPut ⟨ha7, d.N, d.B, probeM ha7 (ad 240) v⟩ false D) ha7 ∧ Kept [c] w0 w2) w := by
  obtain ⟨hS, hR⟩ := begC_start B
  have hsz := B.size
  have hc1 := B.cap1
  have g1 := B.g1
  have g2 := B.g2
  refine ⟨fun w1 K1 => ?_, 1 + 14, fb, lt_of_row B.row, fun w1 K1 => ?_⟩
  · refine (sees1 hR (StY.keptZ hS K1) (by omega) (by omega) (by simp) (by simp)).mono ?_
    rintro e w' ⟨s1, s2, s3, he, o1, o2, o3, K2⟩
    exact ⟨_, s1, s2, s3, he, o1, o2, o3, K2⟩
  · clear hS hR
    replace B := B.kept K1
    obtain ⟨hS, hR⟩ := begC_start B
    refine probe_run1 hR small_ha7 (ad_small (by decide)) (by have e := B.inn 5 (by decide); exact e) B.nfv hv (by omega) (by omega) hS fun w2 h2 => ?_
    have g : growC 4 (endN 0 128) = 0 := by decide
    have hl : (probeM ha7 (ad 240) v).length = 128 := probeM_len rfl rfl
    refine Play.step (P := fun w' => (EndG w' c T [] (dPut ⟨ha7, d.N, d.B, probeM ha7 (ad 240) v⟩ false D) ha7 ∧ Kept [c] w0 w') ∧ Kept [c, fb] w1 w') (stepY_return1 (ns := []) 128 0 _ h2 hR.hard hR.code hR.fd rfl hR.len (by simp) (by omega) (by rw [g]; omega) (by omega) (by simp) (by omega) (by omega) ?_) fun w' hx => play_endG hx.1.1 hx.1.2 hx.2
    intro w' u S' mv' hS' hu hu2
    rw [growB_128 hl, cutB_whole hl] at hu
    have o4 : mv'.oneCell' = true := by
      obtain ⟨mp, mc, em⟩ := hS'.mm.cell
      rw [em]
      rfl
    rw [g] at hS'
    have big : 200000 < 256 ^ 100 := by decide
    refine (leaveC_ok c fb cap 1 0 0 18 (G - 48 - (0 + 0)) cur _ la E nilS nilS nilS nilS nilS nilS mv' u (probeM ha7 (ad 240) v) ha7 D d w' hS'.ch hS'.fr.toQ (by have e := B.inn 0 (by decide); exact e) creates_one (frG_cellsL B.inn B.ngv.one B.nfv.one B.ncw.one B.niu.one B.one) o4 (by omega) hc1 B.capM hu hl rfl rfl small_ha7 hR.se ((AccD.still D) _ _ _ _ B.acc hS'.k hR.hard) hd hN0 hll (by omega) (Nat.lt_of_le_of_lt (by omega) big)).mono ?_
    rintro e w'' ⟨r, vz, rfl, hE, hA, K⟩
    have k2 : Kept [c, fb] w1 w'' := hS'.k.trans (K.mono (by simp))
    exact ⟨r, rfl, ⟨⟨_, _, la, by omega, hE, hA, B.md, B.ma, B.lim.keptN k2 hR.hard, B.pr.keptN k2 hR.hard, B.tv.keptN k2 hR.hard, B.gv⟩, B.bas.to k2⟩, k2⟩
end Go.Proofs.YgcsalGreat

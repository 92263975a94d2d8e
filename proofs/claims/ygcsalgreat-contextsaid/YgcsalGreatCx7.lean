/-
  RETURN and STOP in a run of Context, leave given; the way back to a caller.
-/
import Derived.Test.YgcsalGreatCx6
import Derived.Test.YgcsalGreatCp17
set_option linter.unusedSimpArgs false
set_option linter.unusedVariables false
namespace Go.Proofs.YgcsalGreat
open Go.RowKit Go.Own
theorem stepY_return1 {wB : World} {c fbB : Nat} {E : XEnv} {rr fb cap : Nat} {fs0 : Array Value} {m G : Nat} {ns : List Nat} {mem : List Nat} {W : Nat} {rt : Value} {rd : List Nat} {la : List (List Nat)} {w : World} {cv : Value} {ds : List Nat} {sb : Bool} (N O : Nat) (Post : World → Prop) (hE : StF wB c fbB E rr fb 0 1 cap fs0 m G (ns ++ [N, O]) mem W rt rd la w) (hH : Hard [c, fbB] wB) (hcv : NatV wB cv ds) (hfc : FrB fs0 0 sb cv) (hm : ds[m]? = some 243) (hl : ds.length ≤ 1000) (hns : ns.length ≤ 20) (hm1 : m ≤ 900) (hkG : (0 + growC W (endN O N)) ≤ G) (hG : G ≤ 1000000) (hrr2 : rr ≤ (ns ++ [N, O]).length) (hO : O ≤ 300) (hN : N ≤ 300)
    (hL : ∀ w' u S' mv', StY wB c fbB E S' rr fb 0 1 cap fs0 m (G - (0 + growC W (endN O N))) (ns ++ [N, O]) mv' (growB mem (endN O N)) (max W (wds (endN O N))) rt rd la w' → NatV w' u (cutB (growB mem (endN O N)) O N) → (u = nilS ∨ ∃ b, u = .slice (some ⟨b, 0, none⟩) N N ∧ wB.heap.size ≤ b) → Calls Salg.prog 112 #[.pointer (some ⟨c, 0, none⟩), .int .u8 0, u] w' fun e w'' => ∃ r, e = .returned r ∧ Post w'') :
    Calls Salg.prog 27 #[.pointer (some ⟨c, 0, none⟩)] w fun e w' => e = .returned (.bool true) ∧ Post w' := by
  obtain ⟨S, mv, hS⟩ := hE
  obtain ⟨cs, c1, c9, c10, c11, cn⟩ := hS.ch.row
  obtain ⟨mp, mc, em⟩ := hS.mm.cell
  have hG2 : G < 256 ^ 100 := Nat.lt_of_le_of_lt hG (by decide)
  have hcw := hcv.keptN hS.k hH
  have hwle := hS.wle
  have hUb : endN O N ≤ 640 := (by have := endN_le O N; omega)
  refine stepB_return1 S rr c fb m G (0 + growC W (endN O N)) (endN O N) 0 0 O N cs fs0 cap _ cv mv ds (fun w' => StF wB c fbB E rr fb 0 1 cap fs0 m (G - (0 + growC W (endN O N))) (ns ++ [N, O]) (growB mem (endN O N)) (max W (wds (endN O N))) rt rd la w') Post (fun u w' => NatV w' u (cutB (growB mem (endN O N)) O N) ∧ (u = nilS ∨ ∃ b, u = .slice (some ⟨b, 0, none⟩) N N ∧ wB.heap.size ≤ b) ∧ StF wB c fbB E rr fb 0 1 cap fs0 m (G - (0 + growC W (endN O N))) (ns ++ [N, O]) (growB mem (endN O N)) (max W (wds (endN O N))) rt rd la w') w c1 c9 c11 hS.sl hS.fr hcw hm hl sb hfc hkG (Nat.lt_of_lt_of_le hG2 (by decide)) ?_ ?_ ?_ ?_ ?_ ?_ ?_
  · intro w' K1
    have hF := hS.fr.kept K1
    refine refusalB_return _ fb 0 m G _ fs0 cv _ _ w' hF.toQ sb hfc (by simp) (by simp; omega) hkG fun w1 K2 => ?_
    have hF1 := hF.kept K2
    obtain ⟨fs, f1, _, _, f9, _⟩ := hF1.row
    rw [em] at f9
    refine costM_any _ fb 0 243 0 (endN O N) mem.length W fs mp mc w1 f1 f9 (by decide) hS.len (by omega) (by omega) (fun w2 K3 => ?_) (fun w2 K3 => ?_)
    · exact bareCost_return _ _ w2
    · exact reachE_return N O fb 0 m G fs0 _ ns w2 (hF1.kept K3).toQ (by omega) (by omega) (by omega)
  · intro w' K1 hF
    exact reachE_return N O fb 0 m (G - (0 + growC W (endN O N))) fs0 _ ns w' hF.toQ (by omega) (by omega) (by omega)
  · intro w' r K1 hF hr
    exact grow_Y (endN O N) r (hS.frame K1 hF) hr (by omega) hrr2
  · rintro w' K1 ⟨S', mv', hS2⟩
    refine (arg_F fb 0 0 O m _ fs0 _ (ns ++ [N, O]) w' hS2.fr.toQ (by simp) (by simp) (by simp; omega)).mono ?_
    rintro e w'' ⟨r, rfl, x1, K⟩
    exact ⟨r, rfl, x1, ⟨S', mv', hS2.kept K⟩, K⟩
  · rintro w' K1 ⟨S', mv', hS2⟩
    refine (arg_F fb 0 1 N m _ fs0 _ (ns ++ [N, O]) w' hS2.fr.toQ (by simp) (by simp) (by simp; omega)).mono ?_
    rintro e w'' ⟨r, rfl, x1, K⟩
    exact ⟨r, rfl, x1, ⟨S', mv', hS2.kept K⟩, K⟩
  · rintro w' r r' K1 ⟨S', mv', hS2⟩ h1 h2
    obtain ⟨fs, f1, _, _, f9, _⟩ := hS2.fr.row
    have hln := hS2.len
    have hw2 := hS2.wle
    refine (read_any fb 0 fs _ r r' _ O N w' f1 f9 (hS2.mm.nat hS2.sm (by omega)) h1 h2 (by omega) (by omega)).mono ?_
    rintro e w'' ⟨u, rfl, x1, x2, K⟩
    exact ⟨u, rfl, ⟨x1, x2.imp id (fun ⟨b, e1, e2⟩ => ⟨b, e1, Nat.le_trans hS2.k.size e2⟩), S', mv', hS2.kept K⟩, K⟩
  · rintro w' u K1 ⟨x1, x2, S', mv', hS2⟩
    exact hL w' u S' mv' hS2 x1 x2
theorem stepY_return2 {wB : World} {c fbB : Nat} {E : XEnv} {rr fb cap : Nat} {fs0 : Array Value} {m G : Nat} {ns : List Nat} {mem : List Nat} {W : Nat} {rt : Value} {rd : List Nat} {la : List (List Nat)} {w : World} {cv : Value} {ds : List Nat} {sb : Bool} (N O : Nat) (Post : World → Prop) (hE : StF wB c fbB E rr fb 60 2 cap fs0 m G (ns ++ [N, O]) mem W rt rd la w) (hH : Hard [c, fbB] wB) (hcv : NatV wB cv ds) (hfc : FrB fs0 60 sb cv) (hm : ds[m]? = some 243) (hl : ds.length ≤ 1000) (hns : ns.length ≤ 20) (hm1 : m ≤ 900) (hkG : (0 + growC W (endN O N)) ≤ G) (hG : G ≤ 1000000) (hrr2 : rr ≤ (ns ++ [N, O]).length) (hO : O ≤ 300) (hN : N ≤ 300)
    (hL : ∀ w' u S' mv', StY wB c fbB E S' rr fb 60 2 cap fs0 m (G - (0 + growC W (endN O N))) (ns ++ [N, O]) mv' (growB mem (endN O N)) (max W (wds (endN O N))) rt rd la w' → NatV w' u (cutB (growB mem (endN O N)) O N) → (u = nilS ∨ ∃ b, u = .slice (some ⟨b, 0, none⟩) N N ∧ wB.heap.size ≤ b) → Calls Salg.prog 112 #[.pointer (some ⟨c, 0, none⟩), .int .u8 0, u] w' fun e w'' => ∃ r, e = .returned r ∧ Post w'') :
    Calls Salg.prog 27 #[.pointer (some ⟨c, 0, none⟩)] w fun e w' => e = .returned (.bool true) ∧ Post w' := by
  obtain ⟨S, mv, hS⟩ := hE
  obtain ⟨cs, c1, c9, c10, c11, cn⟩ := hS.ch.row
  obtain ⟨mp, mc, em⟩ := hS.mm.cell
  have hG2 : G < 256 ^ 100 := Nat.lt_of_le_of_lt hG (by decide)
  have hcw := hcv.keptN hS.k hH
  have hwle := hS.wle
  have hUb : endN O N ≤ 640 := (by have := endN_le O N; omega)
  refine stepB_return2 S rr c fb m G (0 + growC W (endN O N)) (endN O N) 0 0 O N cs fs0 cap _ cv mv ds (fun w' => StF wB c fbB E rr fb 60 2 cap fs0 m (G - (0 + growC W (endN O N))) (ns ++ [N, O]) (growB mem (endN O N)) (max W (wds (endN O N))) rt rd la w') Post (fun u w' => NatV w' u (cutB (growB mem (endN O N)) O N) ∧ (u = nilS ∨ ∃ b, u = .slice (some ⟨b, 0, none⟩) N N ∧ wB.heap.size ≤ b) ∧ StF wB c fbB E rr fb 60 2 cap fs0 m (G - (0 + growC W (endN O N))) (ns ++ [N, O]) (growB mem (endN O N)) (max W (wds (endN O N))) rt rd la w') w c1 c9 c11 hS.sl hS.fr hcw hm hl sb hfc hkG (Nat.lt_of_lt_of_le hG2 (by decide)) ?_ ?_ ?_ ?_ ?_ ?_ ?_
  · intro w' K1
    have hF := hS.fr.kept K1
    refine refusalB_return _ fb 60 m G _ fs0 cv _ _ w' hF.toQ sb hfc (by simp) (by simp; omega) hkG fun w1 K2 => ?_
    have hF1 := hF.kept K2
    obtain ⟨fs, f1, _, _, f9, _⟩ := hF1.row
    rw [em] at f9
    refine costM_any _ fb 60 243 0 (endN O N) mem.length W fs mp mc w1 f1 f9 (by decide) hS.len (by omega) (by omega) (fun w2 K3 => ?_) (fun w2 K3 => ?_)
    · exact bareCost_return _ _ w2
    · exact reachE_return N O fb 60 m G fs0 _ ns w2 (hF1.kept K3).toQ (by omega) (by omega) (by omega)
  · intro w' K1 hF
    exact reachE_return N O fb 60 m (G - (0 + growC W (endN O N))) fs0 _ ns w' hF.toQ (by omega) (by omega) (by omega)
  · intro w' r K1 hF hr
    exact grow_Y (endN O N) r (hS.frame K1 hF) hr (by omega) hrr2
  · rintro w' K1 ⟨S', mv', hS2⟩
    refine (arg_F fb 60 0 O m _ fs0 _ (ns ++ [N, O]) w' hS2.fr.toQ (by simp) (by simp) (by simp; omega)).mono ?_
    rintro e w'' ⟨r, rfl, x1, K⟩
    exact ⟨r, rfl, x1, ⟨S', mv', hS2.kept K⟩, K⟩
  · rintro w' K1 ⟨S', mv', hS2⟩
    refine (arg_F fb 60 1 N m _ fs0 _ (ns ++ [N, O]) w' hS2.fr.toQ (by simp) (by simp) (by simp; omega)).mono ?_
    rintro e w'' ⟨r, rfl, x1, K⟩
    exact ⟨r, rfl, x1, ⟨S', mv', hS2.kept K⟩, K⟩
  · rintro w' r r' K1 ⟨S', mv', hS2⟩ h1 h2
    obtain ⟨fs, f1, _, _, f9, _⟩ := hS2.fr.row
    have hln := hS2.len
    have hw2 := hS2.wle
    refine (read_any fb 60 fs _ r r' _ O N w' f1 f9 (hS2.mm.nat hS2.sm (by omega)) h1 h2 (by omega) (by omega)).mono ?_
    rintro e w'' ⟨u, rfl, x1, x2, K⟩
    exact ⟨u, rfl, ⟨x1, x2.imp id (fun ⟨b, e1, e2⟩ => ⟨b, e1, Nat.le_trans hS2.k.size e2⟩), S', mv', hS2.kept K⟩, K⟩
  · rintro w' u K1 ⟨x1, x2, S', mv', hS2⟩
    exact hL w' u S' mv' hS2 x1 x2
theorem stepY_return3 {wB : World} {c fbB : Nat} {E : XEnv} {rr fb cap : Nat} {fs0 : Array Value} {m G : Nat} {ns : List Nat} {mem : List Nat} {W : Nat} {rt : Value} {rd : List Nat} {la : List (List Nat)} {w : World} {cv : Value} {ds : List Nat} {sb : Bool} (N O : Nat) (Post : World → Prop) (hE : StF wB c fbB E rr fb 120 3 cap fs0 m G (ns ++ [N, O]) mem W rt rd la w) (hH : Hard [c, fbB] wB) (hcv : NatV wB cv ds) (hfc : FrB fs0 120 sb cv) (hm : ds[m]? = some 243) (hl : ds.length ≤ 1000) (hns : ns.length ≤ 20) (hm1 : m ≤ 900) (hkG : (0 + growC W (endN O N)) ≤ G) (hG : G ≤ 1000000) (hrr2 : rr ≤ (ns ++ [N, O]).length) (hO : O ≤ 300) (hN : N ≤ 300)
    (hL : ∀ w' u S' mv', StY wB c fbB E S' rr fb 120 3 cap fs0 m (G - (0 + growC W (endN O N))) (ns ++ [N, O]) mv' (growB mem (endN O N)) (max W (wds (endN O N))) rt rd la w' → NatV w' u (cutB (growB mem (endN O N)) O N) → (u = nilS ∨ ∃ b, u = .slice (some ⟨b, 0, none⟩) N N ∧ wB.heap.size ≤ b) → Calls Salg.prog 112 #[.pointer (some ⟨c, 0, none⟩), .int .u8 0, u] w' fun e w'' => ∃ r, e = .returned r ∧ Post w'') :
    Calls Salg.prog 27 #[.pointer (some ⟨c, 0, none⟩)] w fun e w' => e = .returned (.bool true) ∧ Post w' := by
  obtain ⟨S, mv, hS⟩ := hE
  obtain ⟨cs, c1, c9, c10, c11, cn⟩ := hS.ch.row
  obtain ⟨mp, mc, em⟩ := hS.mm.cell
  have hG2 : G < 256 ^ 100 := Nat.lt_of_le_of_lt hG (by decide)
  have hcw := hcv.keptN hS.k hH
  have hwle := hS.wle
  have hUb : endN O N ≤ 640 := (by have := endN_le O N; omega)
  refine stepB_return3 S rr c fb m G (0 + growC W (endN O N)) (endN O N) 0 0 O N cs fs0 cap _ cv mv ds (fun w' => StF wB c fbB E rr fb 120 3 cap fs0 m (G - (0 + growC W (endN O N))) (ns ++ [N, O]) (growB mem (endN O N)) (max W (wds (endN O N))) rt rd la w') Post (fun u w' => NatV w' u (cutB (growB mem (endN O N)) O N) ∧ (u = nilS ∨ ∃ b, u = .slice (some ⟨b, 0, none⟩) N N ∧ wB.heap.size ≤ b) ∧ StF wB c fbB E rr fb 120 3 cap fs0 m (G - (0 + growC W (endN O N))) (ns ++ [N, O]) (growB mem (endN O N)) (max W (wds (endN O N))) rt rd la w') w c1 c9 c11 hS.sl hS.fr hcw hm hl sb hfc hkG (Nat.lt_of_lt_of_le hG2 (by decide)) ?_ ?_ ?_ ?_ ?_ ?_ ?_
  · intro w' K1
    have hF := hS.fr.kept K1
    refine refusalB_return _ fb 120 m G _ fs0 cv _ _ w' hF.toQ sb hfc (by simp) (by simp; omega) hkG fun w1 K2 => ?_
    have hF1 := hF.kept K2
    obtain ⟨fs, f1, _, _, f9, _⟩ := hF1.row
    rw [em] at f9
    refine costM_any _ fb 120 243 0 (endN O N) mem.length W fs mp mc w1 f1 f9 (by decide) hS.len (by omega) (by omega) (fun w2 K3 => ?_) (fun w2 K3 => ?_)
    · exact bareCost_return _ _ w2
    · exact reachE_return N O fb 120 m G fs0 _ ns w2 (hF1.kept K3).toQ (by omega) (by omega) (by omega)
  · intro w' K1 hF
    exact reachE_return N O fb 120 m (G - (0 + growC W (endN O N))) fs0 _ ns w' hF.toQ (by omega) (by omega) (by omega)
  · intro w' r K1 hF hr
    exact grow_Y (endN O N) r (hS.frame K1 hF) hr (by omega) hrr2
  · rintro w' K1 ⟨S', mv', hS2⟩
    refine (arg_F fb 120 0 O m _ fs0 _ (ns ++ [N, O]) w' hS2.fr.toQ (by simp) (by simp) (by simp; omega)).mono ?_
    rintro e w'' ⟨r, rfl, x1, K⟩
    exact ⟨r, rfl, x1, ⟨S', mv', hS2.kept K⟩, K⟩
  · rintro w' K1 ⟨S', mv', hS2⟩
    refine (arg_F fb 120 1 N m _ fs0 _ (ns ++ [N, O]) w' hS2.fr.toQ (by simp) (by simp) (by simp; omega)).mono ?_
    rintro e w'' ⟨r, rfl, x1, K⟩
    exact ⟨r, rfl, x1, ⟨S', mv', hS2.kept K⟩, K⟩
  · rintro w' r r' K1 ⟨S', mv', hS2⟩ h1 h2
    obtain ⟨fs, f1, _, _, f9, _⟩ := hS2.fr.row
    have hln := hS2.len
    have hw2 := hS2.wle
    refine (read_any fb 120 fs _ r r' _ O N w' f1 f9 (hS2.mm.nat hS2.sm (by omega)) h1 h2 (by omega) (by omega)).mono ?_
    rintro e w'' ⟨u, rfl, x1, x2, K⟩
    exact ⟨u, rfl, ⟨x1, x2.imp id (fun ⟨b, e1, e2⟩ => ⟨b, e1, Nat.le_trans hS2.k.size e2⟩), S', mv', hS2.kept K⟩, K⟩
  · rintro w' u K1 ⟨x1, x2, S', mv', hS2⟩
    exact hL w' u S' mv' hS2 x1 x2
theorem numS_nil {w : World} {v : Value} {n : Nat} (h : NumV w v n) : NumS [] w v n := by
  obtain ⟨ds, h1, h2, h3⟩ := h
  exact ⟨ds, h1, h2, h3, .inr fun b _ hb => by cases hb⟩
theorem _root_.Go.Own.FrameQ.toM0 {w : World} {fb q : Nat} {fs0 : Array Value} {m G : Nat} {ns : List Nat} {mv : Value} (r : Nat) (h : FrameQ w fb q fs0 m G ns mv) : FrameM [] r w fb q fs0 m G ns mv := by
  obtain ⟨fs, pv, gv, sv, xs, h1, h0, h2, h3, h4, h5, h6, h7, h8, h9, ha⟩ := h
  exact ⟨fs, pv, gv, sv, xs, h1, h0, h2, h3, numS_nil h4, h5, numS_nil h6, h7, h8, h9, ha, fun j v n _ e2 e3 => numS_nil (h9.2 j v n e2 e3)⟩
/-- A frame with no memory stands ready. -/
theorem state_back {wB : World} {c fb : Nat} {E : XEnv} {q n cap : Nat} {fs1 : Array Value} {m G : Nat} {ns : List Nat} {rt : Value} {rd : List Nat} {la : List (List Nat)} {w : World} (r : Nat) (K : Kept [c, fb] wB w) (hC : ChY w c E (.slice (some ⟨fb, 0, none⟩) n cap) rt la) (hF : FrameQ w fb q fs1 m G ns nilS) (hR : NatV w rt rd) : StF wB c fb E r fb q n cap fs1 m G ns [] 0 rt rd la w :=
  ⟨[], nilS, K, .inl rfl, hC, hF.toM0 r, .inl ⟨rfl, rfl⟩, (fun x hx => by cases hx), rfl, by decide, ⟨hR, .inr fun b _ h => by cases h⟩, (fun b hb => by cases hb)⟩
end Go.Proofs.YgcsalGreat

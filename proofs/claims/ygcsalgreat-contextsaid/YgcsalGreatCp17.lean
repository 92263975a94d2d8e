/-
  RETURN of the outer frame and ReturnBounds: the steps.
-/
import Derived.Test.YgcsalGreatCp16
set_option linter.unusedSimpArgs false
set_option linter.unusedVariables false
namespace Go.Own
theorem WorldW.keptN {X : List Nat} {w w' : World} {a0 a1 a2 a3 : Value} {la : List (List Nat)} {R N1 B1 N2 B2 N3 B3 : Nat} {ds1 ds2 : List Nat} (h : WorldW w a0 a1 a2 a3 la none none R N1 B1 N2 B2 N3 B3 ds1 ds2) (k : Kept X w w') (hX : Hard X w) : WorldW w' a0 a1 a2 a3 la none none R N1 B1 N2 B2 N3 B3 ds1 ds2 := by
  obtain ⟨nv, bv, cu, sl, nv2, bv2, cu2, nv3, bv3, w1, w2, w3, w4, w5, w6, w7, w8, w9, wa, wb, wc, wd⟩ := h
  exact ⟨nv, bv, cu, sl, nv2, bv2, cu2, nv3, bv3, w1.keptN k hX, ⟨own_keptN w2.own k hX (by decide), w2.ok, w2.len⟩, w3, w4.keptN k hX, w5, w6.keptN k hX, w7.keptN k hX, w8.keptN k hX, w9.keptN k hX, wa.keptN k hX, wb.keptN k hX, wc.keptN k hX, wd.keptN k hX⟩
end Go.Own
namespace Go.Proofs.YgcsalGreat
open Go.RowKit Go.Own

set_option maxHeartbeats 4000000 in
set_option maxRecDepth 100000 in
theorem reachE_return (N O : Nat) (fb q m G : Nat) (fs0 : Array Value) (mc : Value) (ns : List Nat) (w : World) (hF : FrameQ w fb q fs0 m G (ns ++ [N, O]) mc) (hl : ns.length ≤ 30) (hO : O < 256 ^ 90) (hN : N < 256 ^ 90) :
    Calls Salg.prog 114 #[.pointer (some ⟨fb, q, none⟩), .int .u8 243] w fun e w' => ∃ r, e = .returned r ∧ NumV w' r (endN O N) ∧ Kept [] w w' := by
  have M := Mem.start w []
  have HA0 := hid (fun w' (K : Kept [] w w') => arg_F fb q 0 O m G fs0 mc (ns ++ [N, O]) w' (hF.kept K) (by simp) (by simp) (by simp; omega))
  have HA1 := hid (fun w' (K : Kept [] w w') => arg_F fb q 1 N m G fs0 mc (ns ++ [N, O]) w' (hF.kept K) (by simp) (by simp) (by simp; omega))
  clear hF
  go_enter Salg.func114, Salg.ntmps114
  go_wp2_with fail
  refine (HA0.out _ M.kept).mono ?_
  rintro e w1 ⟨r0, rfl, xH0, K⟩
  have H0 := hid xH0
  replace M := M.call K
  clear K xH0
  go_wp2_with fail
  refine (HA1.out _ M.kept).mono ?_
  rintro e w2 ⟨r1, rfl, xH1, K⟩
  have H1 := hid xH1
  replace H0 := hid (H0.out.kept K)
  replace M := M.call K
  clear K xH1
  go_wp2_with fail
  refine (end_any r0 r1 O N _ H0.out H1.out (by omega) (by omega)).mono ?_
  rintro e w3 ⟨r2, rfl, xH2, K⟩
  have H2 := hid xH2
  replace M := M.call K
  clear K xH2
  go_wp2_with fail
  go_ret
  exact ⟨_, rfl, H2.out, M.kept⟩
theorem read_any (fb q : Nat) (fs : Array Value) (mv o n : Value) (ds : List Nat) (O N : Nat) (w : World) (hr : w.heap[fb]? = some (.cells fs 142 (0, 0))) (h9 : fs[q + 9]? = some mv) (hm : NatV w mv ds) (ho : NumV w o O) (hn : NumV w n N) (hN : N ≤ 1000) (hl : ds.length ≤ 1000) : Calls Salg.prog 115 #[.pointer (some ⟨fb, q, none⟩), o, n] w fun e w' => ∃ u, e = .returned u ∧ NatV w' u (cutB ds O N) ∧ (u = nilS ∨ ∃ b, u = .slice (some ⟨b, 0, none⟩) N N ∧ w.heap.size ≤ b) ∧ Kept [] w w' := by
  by_cases h0 : N = 0
  · subst h0
    refine (read_zero _ o n w hn).mono ?_
    rintro e w' ⟨rfl, K⟩
    exact ⟨_, rfl, by rw [cutB_zero]; exact NatV.nil _, .inl rfl, K⟩
  · refine (read_gen fb q fs mv o n ds O N w hr h9 hm ho hn h0 hN hl).mono ?_
    rintro e w' ⟨b, rfl, h1, h2, K⟩
    exact ⟨_, rfl, (by have h3 := NatV.row h2 (cutB_small hm.small _ _) (by rw [cutB_length]; omega); rw [cutB_length] at h3; exact h3), .inr ⟨b, rfl, h1⟩, K⟩
theorem stepX_return1 {wB : World} {c fbB : Nat} {E : CEnv} {rr fb cap : Nat} {fs0 : Array Value} {m G : Nat} {ns : List Nat} {mem : List Nat} {W : Nat} {rt : Value} {rd : List Nat} {la : List (List Nat)} {w : World} {cv : Value} {ds : List Nat} (N O : Nat) (ds1 ds2 : List Nat) (r6 r7 g0 vv iu a0 a1 a2 a3 : Value) (hE : StE wB c fbB E rr fb 0 1 cap fs0 m G (ns ++ [N, O]) mem W rt rd la w) (hH : Hard [c, fbB] wB) (hcv : NatV wB cv ds) (hfc : FrD fs0 0 cv) (hm : ds[m]? = some 243) (hl : ds.length ≤ 1000) (hns : ns.length ≤ 20) (hm1 : m ≤ 900) (hkG : (0 + growC W (endN O N)) ≤ G) (hG : G ≤ 1000000) (hrr2 : rr ≤ (ns ++ [N, O]).length) (hO : O ≤ 300) (hN : N ≤ 300) (hcur : ∀ k, k < 60 → k ≠ 3 → k ≠ 4 → k ≠ 8 → k ≠ 9 → fs0[k]? = (frO g0 vv cv iu r6 r7 (wrow4 a0 a1 a2 a3))[k]?) (hsz : 60 ≤ fs0.size) (hone : ∀ u ∈ (frO g0 vv cv iu r6 r7 (wrow4 a0 a1 a2 a3)), u.oneCell' = true) (hcap : 1 ≤ cap) (hSt : StatW wB E ds1 ds2) :
    Calls Salg.prog 27 #[.pointer (some ⟨c, 0, none⟩)] w fun e w' => e = .returned (.bool true) ∧ EndS w' c 0 (G - (0 + growC W (endN O N))) (cutB (growB mem (endN O N)) O N) la none none 0 ds1 ds2 ∧ Kept [c, fbB] wB w' := by
  obtain ⟨S, mv, hS⟩ := hE
  obtain ⟨cs, c1, c9, c10, c11, cn⟩ := hS.ch.row
  obtain ⟨mp, mc, em⟩ := hS.mm.cell
  have hG2 : G < 256 ^ 100 := Nat.lt_of_le_of_lt hG (by decide)
  have hcw := hcv.keptN hS.k hH
  have hwle := hS.wle
  have hUb : endN O N ≤ 640 := (by have := endN_le O N; omega)
  refine stepM_return1 S rr c fb m G (0 + growC W (endN O N)) (endN O N) 0 0 O N cs fs0 cap _ cv mv ds (fun w' => StE wB c fbB E rr fb 0 1 cap fs0 m (G - (0 + growC W (endN O N))) (ns ++ [N, O]) (growB mem (endN O N)) (max W (wds (endN O N))) rt rd la w') _ (fun u w' => NatV w' u (cutB (growB mem (endN O N)) O N) ∧ StE wB c fbB E rr fb 0 1 cap fs0 m (G - (0 + growC W (endN O N))) (ns ++ [N, O]) (growB mem (endN O N)) (max W (wds (endN O N))) rt rd la w') w c1 c9 c11 hS.sl hS.fr hcw hm hl hfc hkG (Nat.lt_of_lt_of_le hG2 (by decide)) ?_ ?_ ?_ ?_ ?_ ?_ ?_
  · intro w' K1
    have hF := hS.fr.kept K1
    refine refusalD_return _ fb 0 m G _ fs0 cv _ _ w' hF.toQ hfc (by simp) (by simp; omega) hkG fun w1 K2 => ?_
    have hF1 := hF.kept K2
    obtain ⟨fs, f1, _, _, f9, _⟩ := hF1.row
    rw [em] at f9
    refine costM_any _ fb 0 243 0 (endN O N) mem.length W fs mp mc w1 f1 f9 (by decide) hS.len (by omega) (by omega) (fun w2 K3 => ?_) (fun w2 K3 => ?_)
    · exact bareCost_return _ _ w2
    · exact reachE_return N O fb 0 m G fs0 _ ns w2 (hF1.kept K3).toQ (by omega) (by omega) (by omega)
  · intro w' K1 hF
    exact reachE_return N O fb 0 m (G - (0 + growC W (endN O N))) fs0 _ ns w' hF.toQ (by omega) (by omega) (by omega)
  · intro w' r K1 hF hr
    exact grow_S (endN O N) r (hS.frame K1 hF) hr (by omega) hrr2
  · rintro w' K1 ⟨S', mv', hS2⟩
    refine (arg_F fb 0 0 O m _ fs0 _ (ns ++ [N, O]) w' hS2.fr.toQ (by simp) (by simp) (by simp; omega)).mono ?_
    rintro e w'' ⟨r, rfl, x1, K⟩
    exact ⟨r, rfl, x1, ⟨S', mv', hS2.kept K⟩, K⟩
  · rintro w' K1 ⟨S', mv', hS2⟩
    refine (arg_F fb 0 1 N m _ fs0 _ (ns ++ [N, O]) w' hS2.fr.toQ (by simp) (by simp) (by simp; omega)).mono ?_
    rintro e w'' ⟨r, rfl, x1, K⟩
    exact ⟨r, rfl, x1, ⟨S', mv', hS2.kept K⟩, K⟩
  · rintro w' r r' K1 ⟨S', mv', hS2⟩ h1 h2
    obtain ⟨fs, f1, _, _, f9, _⟩ := hS2.fr.row
    have hln := hS2.len
    have hw2 := hS2.wle
    refine (read_any fb 0 fs _ r r' _ O N w' f1 f9 (hS2.mm.nat hS2.sm (by omega)) h1 h2 (by omega) (by omega)).mono ?_
    rintro e w'' ⟨u, rfl, x1, _, K⟩
    exact ⟨u, rfl, ⟨x1, S', mv', hS2.kept K⟩, K⟩
  · rintro w' u K1 ⟨x1, S', mv', hS2⟩
    obtain ⟨mp', mc', em'⟩ := hS2.mm.cell
    refine (leaveX_ok c fb cap m _ fs0 _ la la ds1 ds2 E rt r6 r7 g0 vv cv iu a0 a1 a2 a3 mv' u _ w' hS2.ch (hSt.keptN hS2.k hH) hS2.fr.toQ hcur hsz hone (by rw [em']; rfl) hcap x1).mono ?_
    rintro e w'' ⟨r, rfl, y1, K⟩
    exact ⟨r, rfl, y1, hS2.k.trans (K.mono (by simp))⟩
theorem stepX_bounds1 {wB : World} {c fbB : Nat} {E : CEnv} {rr fb cap : Nat} {fs0 : Array Value} {m G : Nat} {ns : List Nat} {mem : List Nat} {W : Nat} {rt : Value} {rd : List Nat} {la : List (List Nat)} {w : World} {cv : Value} {ds : List Nat} (N O D : Nat) (ds1 ds2 : List Nat) (la' : List (List Nat)) (r6 r7 g0 vv iu a0 a1 a2 a3 : Value) (hE : StE wB c fbB E rr fb 0 1 cap fs0 m G (ns ++ [N, O, D]) mem W rt rd la w) (hH : Hard [c, fbB] wB) (hcv : NatV wB cv ds) (hfc : FrD fs0 0 cv) (hm : ds[m]? = some 62) (hl : ds.length ≤ 1000) (hns : ns.length ≤ 20) (hm1 : m ≤ 900) (hkG : 0 ≤ G) (hG : G ≤ 1000000) (hO : O < 256 ^ 200) (hN : N ≤ 300) (hb : rd.length < O + N) (hrl : rd.length ≤ 1000) (hcur : ∀ k, k < 60 → k ≠ 3 → k ≠ 4 → k ≠ 8 → k ≠ 9 → fs0[k]? = (frO g0 vv cv iu r6 r7 (wrow4 a0 a1 a2 a3))[k]?) (hsz : 60 ≤ fs0.size) (hone : ∀ u ∈ (frO g0 vv cv iu r6 r7 (wrow4 a0 a1 a2 a3)), u.oneCell' = true) (hcap : 1 ≤ cap) (hSt : StatW wB E ds1 ds2) (hSv : WorldS wB a0 a1 a2 a3 la' none none 0 ds1 ds2) :
    Calls Salg.prog 27 #[.pointer (some ⟨c, 0, none⟩)] w fun e w' => e = .returned (.bool true) ∧ EndS w' c 8 0 [] la' none none 0 ds1 ds2 ∧ Kept [c, fbB] wB w' := by
  obtain ⟨S, mv, hS⟩ := hE
  obtain ⟨cs, c1, c9, c10, c11, cn⟩ := hS.ch.row
  obtain ⟨mp, mc, em⟩ := hS.mm.cell
  have hG2 : G < 256 ^ 100 := Nat.lt_of_le_of_lt hG (by decide)
  have hcw := hcv.keptN hS.k hH
  obtain ⟨rp, rq, ert⟩ : ∃ rp rq, rt = .slice rp rd.length rq := by
    obtain ⟨p, cc, e, _⟩ := hS.rt.1
    exact ⟨p, cc, e⟩
  have c10' := c10
  rw [ert] at c10'
  refine stepM_refused1 S rr c fb m G 0 0 0 8 0 0 62 cs fs0 cap _ cv mv ds (fun _ => True) _ (fun _ _ => True) w c1 c9 c11 hS.sl hS.fr hcw hm hl hfc hkG (Nat.lt_of_lt_of_le hG2 (by decide)) ?_ (by decide) ?_
  · intro w' K1
    have hF := hS.fr.kept K1
    exact refusalD_returndatacopy_no fb 0 m G 0 fs0 cv _ _ w' hF.toQ hfc (by simp) (by simp; omega) c cs rp rq rd.length N O D ns rfl (K1.row c1 (by simp)) c10' (by omega) (by omega) (by omega) hb
  · intro w' K1
    have hS2 := hS.kept K1
    refine (leaveX_fail c fb cap m _ fs0 _ la la' ds1 ds2 E rt r6 r7 g0 vv cv iu a0 a1 a2 a3 mv w' hS2.ch (hSt.keptN hS2.k hH) hS2.fr.toQ hcur hsz hone (by rw [em]; rfl) hcap (WorldW.keptN hSv hS2.k hH)).mono ?_
    rintro e w'' ⟨r, rfl, y1, K⟩
    exact ⟨r, rfl, y1, hS2.k.trans (K.mono (by simp))⟩
end Go.Proofs.YgcsalGreat

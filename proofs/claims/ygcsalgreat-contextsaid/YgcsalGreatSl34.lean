/-
  The run's steps at MSTORE, RETURN, DELEGATECALL, STOP, REVERT and INVALID.
-/
import Derived.Test.YgcsalGreatSl33
set_option linter.unusedSimpArgs false
set_option linter.unusedVariables false
namespace Go.Own
theorem Kept.newer {w w' w1 : World} {X : List Nat} {mb : Nat} (h : Kept X w w') (k : Kept [mb] w' w1) (hm : w.heap.size ≤ mb) : Kept X w w1 := by
  refine ⟨k.os.trans h.os, k.tape.trans h.tape, k.output.trans h.output, Nat.le_trans h.size k.size, fun i hi hx => ?_⟩
  rw [k.block i (Nat.lt_of_lt_of_le hi h.size) (by simp; omega)]
  exact h.block i hi hx
theorem Stable.and {A B : World → Prop} (h : Stable A) (k : Stable B) : Stable (fun w => A w ∧ B w) :=
  ⟨fun w w' a K => ⟨h.kept w w' a.1 K, k.kept w w' a.2 K⟩, fun w w' b cs tc a K h1 h2 h3 => ⟨h.keptC w w' b cs tc a.1 K h1 h2 h3, k.keptC w w' b cs tc a.2 K h1 h2 h3⟩⟩
theorem stable_row (mb t : Nat) (bs : List Nat) : Stable (fun w => w.heap[mb]? = some (R8 t bs)) :=
  ⟨fun w w' a K => K.row a (by simp), fun w w' b cs tc a K h1 h2 _ => K.row a (row_ne h1 a (fun e => h2 _ _ e.symm))⟩
theorem stable_nat (v : Value) (ds : List Nat) : Stable (fun w => NatV w v ds) :=
  ⟨fun w w' a K => NatV.kept a K, fun w w' b cs tc a K h1 h2 _ => NatV.keptC a K h1 h2⟩
theorem stable_num (v : Value) (n : Nat) : Stable (fun w => NumV w v n) :=
  ⟨fun w w' a K => NumV.kept a K, fun w w' b cs tc a K h1 h2 _ => NumV.keptC a K h1 h2⟩
theorem stable_parts (pv gv sv : Value) (xs : List Value) (m G : Nat) (ns : List Nat) : Stable (fun w => PartsV w pv gv sv xs m G ns) :=
  ⟨fun w w' a K => PartsV.kept a K, fun w w' b cs tc a K h1 h2 h3 => PartsV.keptC a K h1 h2 (by rcases h3 with rfl | rfl <;> decide)⟩
theorem stable_world (a0 a1 a2 a3 : Value) (la : List (List Nat)) (mo : Option Nat) (so : Option (Nat × Nat)) (R : Nat) (ds1 ds2 : List Nat) : Stable (fun w => WorldS w a0 a1 a2 a3 la mo so R ds1 ds2) :=
  ⟨fun w w' a K => WorldW.kept a K, fun w w' b cs tc a K h1 h2 h3 => WorldW.keptC a K h1 h2 (by rcases h3 with rfl | rfl; exact wtype119; exact wtype142)⟩
theorem StV.more {w0 : World} {A B : World → Prop} {c fb q n cap : Nat} {fs0 : Array Value} {m G : Nat} {ns : List Nat} {mv : Value} {la : List (List Nat)} {mo : Option Nat} {so : Option (Nat × Nat)} {R : Nat} {ds1 ds2 : List Nat} {w : World} (h : StV w0 A c fb q n cap fs0 m G ns mv la mo so R ds1 ds2 w) (hB : B w) : StV w0 (fun w => A w ∧ B w) c fb q n cap fs0 m G ns mv la mo so R ds1 ds2 w := ⟨h.k, h.b, h.ch, h.fr, ⟨h.a, hB⟩⟩
theorem StV.weak {w0 : World} {A B : World → Prop} {c fb q n cap : Nat} {fs0 : Array Value} {m G : Nat} {ns : List Nat} {mv : Value} {la : List (List Nat)} {mo : Option Nat} {so : Option (Nat × Nat)} {R : Nat} {ds1 ds2 : List Nat} {w : World} (h : StV w0 A c fb q n cap fs0 m G ns mv la mo so R ds1 ds2 w) (hB : ∀ w, A w → B w) : StV w0 B c fb q n cap fs0 m G ns mv la mo so R ds1 ds2 w := ⟨h.k, h.b, h.ch, h.fr, hB _ h.a⟩
theorem cutB_all {bs : List Nat} {n : Nat} (h : bs.length = n) : cutB bs 0 n = bs := by subst h; simp [cutB]
/-- The chain when the transaction has ended well. -/
def EndV (w : World) (c G : Nat) (out : List Nat) (la : List (List Nat)) (mo : Option Nat) (so : Option (Nat × Nat)) (R : Nat) (ds1 ds2 : List Nat) : Prop := ∃ (vz wz mv rv rt lim gv0 lf pr tv : Value), w.heap[c]? = some (.cells (chE vz wz mv rv rt 0 lim gv0 lf pr tv) 119 (0, 0)) ∧ WorldS w vz wz mv rv la mo so R ds1 ds2 ∧ NumV w lim 200000 ∧ NumV w pr 0 ∧ NumV w tv 340282366920938463463374607431768211456 ∧ NumV w lf G ∧ NatV w rt out ∧ gv0.oneCell' = true
/-- What the outer frame's row holds. -/
structure OutF (fs0 : Array Value) (g0 vv cv r7 a0 a1 a2 a3 : Value) : Prop where
  cur : ∀ k, k < 60 → k ≠ 3 → k ≠ 4 → k ≠ 8 → k ≠ 9 → fs0[k]? = ((frL g0 vv cv nilS (wrow4 a0 a1 a2 a3)).set 7 r7)[k]?
  sz : 60 ≤ fs0.size
  one : ∀ u ∈ (frL g0 vv cv nilS (wrow4 a0 a1 a2 a3)).set 7 r7, u.oneCell' = true
theorem OutF.frC {fs0 : Array Value} {g0 vv cv r7 a0 a1 a2 a3 : Value} (h : OutF fs0 g0 vv cv r7 a0 a1 a2 a3) : FrC fs0 0 cv := by
  refine ⟨h.cur 1 (by decide) (by decide) (by decide) (by decide) (by decide), h.cur 2 (by decide) (by decide) (by decide) (by decide) (by decide), h.cur 10 (by decide) (by decide) (by decide) (by decide) (by decide), ?_, by have := h.sz; omega⟩
  have hz := h.sz
  apply Array.ext (by simp [ad]; omega)
  intro i h1 h2
  simp only [Array.getElem_extract]
  simp only [Array.size_extract] at h1
  have e := h.cur (0 + 12 + i) (by omega) (by omega) (by omega) (by omega) (by omega)
  rw [Array.getElem?_eq_getElem (by omega)] at e
  have hi : i < 20 := by omega
  refine Option.some.inj (e.trans ?_)
  rw [List.getElem?_set_ne (by omega)]
  simp only [List.size_toArray, List.length_map] at h2
  rw [List.getElem_toArray, ← List.getElem?_eq_getElem (by simpa using h2)]
  have e12 : 0 + 12 + i = 12 + i := by omega
  rw [e12, frL, List.getElem?_append_right (by simp), List.getElem?_append_left (by simp [ad]; omega)]
  congr 1
  simp
end Go.Own
namespace Go.Proofs.YgcsalGreat
open Go.RowKit Go.Own
theorem stepS_mstore (w0 : World) (A : World → Prop) (c fb cap : Nat) (fs0 : Array Value) (m G : Nat) (ns : List Nat) (la : List (List Nat)) (mo : Option Nat) (so : Option (Nat × Nat)) (R : Nat) (ds1 ds2 : List Nat) (bs : List Nat) (cv : Value) (ds : List Nat) (w : World) (hS : StV w0 A c fb 0 1 cap fs0 m G (ns ++ [be bs, 0]) nilS la mo so R ds1 ds2 w) (hA : Stable A) (hcv : ∀ w, A w → NatV w cv ds) (hfc : FrC fs0 0 cv) (hm : ds[m]? = some 82) (hl : ds.length ≤ 1000) (hns : ns.length ≤ 20) (hm1 : m ≤ 900) (hb : bs.length = 32) (hs : Small bs) (hkG : 6 ≤ G) (hG : G < 256 ^ 100) :
    Calls Salg.prog 27 #[.pointer (some ⟨c, 0, none⟩)] w fun e w' => e = .returned (.bool true) ∧ ∃ mb, StV w0 (fun w => A w ∧ w.heap[mb]? = some (R8 5 bs)) c fb 0 1 cap fs0 (m + 1) (G - 6) ns (.slice (some ⟨mb, 0, none⟩) 32 32) la mo so R ds1 ds2 w' := by
  obtain ⟨cs, c1, c9, c11, _⟩ := hS.ch.row
  refine step_plain1 c fb m G 6 32 2 0 0 0 82 cs fs0 cap _ cv nilS ds (fun w' => ∃ mb, w.heap.size ≤ mb ∧ FrameQ w' fb 0 fs0 m (G - 6) (ns ++ [be bs, 0]) (.slice (some ⟨mb, 0, none⟩) 32 32) ∧ w'.heap[mb]? = some (R8 5 (List.replicate 32 0))) _ (fun _ _ => True) w (by decide) c1 c9 c11 hS.fr (hcv w hS.a) hm hl hfc hkG (Nat.lt_of_lt_of_le hG (by decide)) ?_ ?_ ?_ family_mstore (by decide) ?_
  · intro w' K1
    have hF := hS.fr.kept K1
    refine refusal_mstore _ fb 0 m G _ fs0 cv _ _ w' hF hfc (by simp) (by simp; omega) hkG fun w1 K2 => ?_
    have hF1 := hF.kept K2
    obtain ⟨fs, pv, gv, sv, xs, h1, h0, h2, h3, h4, h5, h6, h7, h8, h9, ha⟩ := hF1
    refine cost_01 _ fb 0 82 3 fs none 0 w1 h1 ha (by decide) (fun w2 K3 => ?_) (fun w2 K3 => ?_)
    · exact bareCost_mstore _ _ w2
    · exact reach_mstore fb 0 0 (be bs) m G fs0 nilS ns w2 ((hF.kept K2).kept K3) (by omega) (by decide)
  · intro w' K1 hF
    exact reach_mstore fb 0 0 (be bs) m (G - 6) fs0 nilS ns w' hF (by omega) (by decide)
  · intro w' r K1 hF hr
    refine (grow_01 fb 0 m (G - 6) fs0 (ns ++ [be bs, 0]) r w' hF hr).mono ?_
    rintro e w'' ⟨r', mb, rfl, e1, e2, e3, K⟩
    exact ⟨r', rfl, ⟨mb, Nat.le_trans K1.size e1, e2, e3⟩, K⟩
  · rintro w' K1 ⟨mb, hmb, hF, hz⟩
    refine (plain_mstore _ fb 0 m _ 0 (be bs) 0 fs0 _ ns w' hF (by omega) (by omega) _ (fun w'' => w''.heap[mb]? = some (R8 5 bs)) mb hz (light_zero 32) fun w1 a b ab args K2 e1 e2 e3 e4 e5 => ?_).mono ?_
    · obtain ⟨fs, pv, gv, sv, xs, h1, h0, h2, h3, h4, h5, h6, h7, h8, h9, ha⟩ := hF.kept K2
      exact effect_mstore _ a b fb 0 mb ab fs args bs w1 h1 ha (K2.row hz (by simp)) e1 e2 e3 e4 e5 hb hs
    · rintro e w'' ⟨r, w1, rfl, p1, p2, p3, p4, p5⟩
      obtain ⟨fs, f1, f2⟩ := p3.row
      have KK : Kept [fb] w w'' := (K1.newer p2 hmb).trans p4
      exact ⟨r, rfl, mb, (hS.frame hA KK p5).more (p4.row p1 (row_ne f1 p1 (fun e => f2 _ _ e.symm)))⟩
theorem stepS_return (w0 : World) (A : World → Prop) (c fb cap : Nat) (fs0 : Array Value) (m G : Nat) (ns : List Nat) (la : List (List Nat)) (mo : Option Nat) (so : Option (Nat × Nat)) (R : Nat) (ds1 ds2 : List Nat) (bs : List Nat) (mb : Nat) (cv g0 vv r7 a0 a1 a2 a3 : Value) (ds : List Nat) (w : World) (hS : StV w0 A c fb 0 1 cap fs0 m G (ns ++ [32, 0]) (.slice (some ⟨mb, 0, none⟩) 32 32) la mo so R ds1 ds2 w) (hA : Stable A) (hcv : ∀ w, A w → NatV w cv ds) (hmb : ∀ w, A w → w.heap[mb]? = some (R8 5 bs)) (hO : OutF fs0 g0 vv cv r7 a0 a1 a2 a3) (hm : ds[m]? = some 243) (hl : ds.length ≤ 1000) (hns : ns.length ≤ 20) (hm1 : m ≤ 900) (hb : bs.length = 32) (hs : Small bs) (hcap : 1 ≤ cap) (hG : G < 256 ^ 100) :
    Calls Salg.prog 27 #[.pointer (some ⟨c, 0, none⟩)] w fun e w' => e = .returned (.bool true) ∧ EndV w' c G bs la mo so R ds1 ds2 ∧ Kept [c] w0 w' := by
  obtain ⟨cs, c1, c9, c11, _⟩ := hS.ch.row
  have hfc := hO.frC
  refine step_return1 c fb m G 0 32 0 0 0 32 cs fs0 cap _ cv (.slice (some ⟨mb, 0, none⟩) 32 32) ds (fun w' => FrameQ w' fb 0 fs0 m (G - 0) (ns ++ [32, 0]) (.slice (some ⟨mb, 0, none⟩) 32 32)) _ (fun u w' => NatV w' u bs ∧ FrameQ w' fb 0 fs0 m (G - 0) (ns ++ [32, 0]) (.slice (some ⟨mb, 0, none⟩) 32 32)) w c1 c9 c11 hS.fr (hcv w hS.a) hm hl hfc (Nat.zero_le _) (Nat.lt_of_lt_of_le hG (by decide)) ?_ ?_ ?_ ?_ ?_ ?_ ?_
  · intro w' K1
    have hF := hS.fr.kept K1
    refine refusal_return _ fb 0 m G _ fs0 cv _ _ w' hF hfc (by simp) (by simp; omega) (Nat.zero_le _) fun w1 K2 => ?_
    have hF1 := hF.kept K2
    obtain ⟨fs, pv, gv, sv, xs, h1, h0, h2, h3, h4, h5, h6, h7, h8, h9, ha⟩ := hF1
    refine cost_11 _ fb 0 243 0 fs _ _ w1 h1 ha (by decide) (fun w2 K3 => ?_) (fun w2 K3 => ?_)
    · exact bareCost_return _ _ w2
    · exact reach_return fb 0 0 32 m G fs0 _ ns w2 ((hF.kept K2).kept K3) (by omega) (by decide) (by decide)
  · intro w' K1 hF
    exact reach_return fb 0 0 32 m (G - 0) fs0 _ ns w' hF (by omega) (by decide) (by decide)
  · intro w' r K1 hF hr
    exact growF (W := 0) (fun fs r w a b c => growk_11 fb 0 fs _ _ r w a b c) r hF hr
  · intro w' K1 hF
    refine (arg_F fb 0 0 0 m (G - 0) fs0 _ _ w' hF (by simp) (by simp) (by simp; omega)).mono ?_
    rintro e w'' ⟨r, rfl, e1, K⟩
    exact ⟨r, rfl, e1, hF.kept K, K⟩
  · intro w' K1 hF
    refine (arg_F fb 0 1 32 m (G - 0) fs0 _ _ w' hF (by simp) (by simp) (by simp; omega)).mono ?_
    rintro e w'' ⟨r, rfl, e1, K⟩
    exact ⟨r, rfl, e1, hF.kept K, K⟩
  · intro w' r r' K1 hF hr hr'
    have hS2 := hS.frame hA K1 hF
    have hF2 := hF
    obtain ⟨fs, pv, gv, sv, xs, h1, h0, h2, h3, h4, h5, h6, h7, h8, h9, ha⟩ := hF
    have hn := NatV.row (hmb w' hS2.a) hs (by omega)
    rw [hb] at hn
    refine (read_some fb 0 fs _ r r' bs 0 32 w' h1 ha hn hr hr' (by decide) (by decide) (by omega) (by decide)).mono ?_
    rintro e w'' ⟨b, rfl, e1, K⟩
    rw [cutB_all hb] at e1
    have hn2 := NatV.row e1 hs (by omega)
    rw [hb] at hn2
    exact ⟨_, rfl, ⟨hn2, hF2.kept K⟩, K⟩
  · rintro w' u K1 ⟨hu, hF⟩
    have hS2 := hS.frame hA K1 hF
    obtain ⟨cs2, d1, d9, d11, dn⟩ := hS2.ch.row
    refine (leave_outer c fb cap m (G - 0) fs0 _ la mo so R ds1 ds2 r7 g0 vv cv a0 a1 a2 a3 _ u w' hS2.ch hF hO.cur hO.sz hO.one rfl hu.one hcap).mono ?_
    rintro e w'' ⟨r, vz, wz, mv, rv, lim, gv0, lf, pr, tv, rfl, e1, e2, e3, e4, e5, e6, e7, K⟩
    exact ⟨r, rfl, ⟨vz, wz, mv, rv, u, lim, gv0, lf, pr, tv, e1, e2, e3, e4, e5, e6, hu.keptC K d1 dn, e7⟩, hS2.k.trans K⟩
/-- What is held while the callee runs. -/
structure InV (cv cw pv gv sv r7 a0 a1 a2 a3 : Value) (xs : List Value) (m G : Nat) (ns : List Nat) (la : List (List Nat)) (mo : Option Nat) (so : Option (Nat × Nat)) (R : Nat) (ds1 ds2 : List Nat) (w : World) : Prop where
  c : NatV w cv ds1
  p : PartsV w pv gv sv xs m G ns
  r : NumV w r7 0
  d : NatV w cw ds2
  s : WorldS w a0 a1 a2 a3 la mo so R ds1 ds2
theorem stable_in (cv cw pv gv sv r7 a0 a1 a2 a3 : Value) (xs : List Value) (m G : Nat) (ns : List Nat) (la : List (List Nat)) (mo : Option Nat) (so : Option (Nat × Nat)) (R : Nat) (ds1 ds2 : List Nat) : Stable (InV cv cw pv gv sv r7 a0 a1 a2 a3 xs m G ns la mo so R ds1 ds2) :=
  ⟨fun w w' a K => ⟨(stable_nat _ _).kept _ _ a.c K, (stable_parts _ _ _ _ _ _ _).kept _ _ a.p K, (stable_num _ _).kept _ _ a.r K, (stable_nat _ _).kept _ _ a.d K, (stable_world _ _ _ _ _ _ _ _ _ _).kept _ _ a.s K⟩,
   fun w w' b cs tc a K h1 h2 h3 => ⟨(stable_nat _ _).keptC _ _ _ _ _ a.c K h1 h2 h3, (stable_parts _ _ _ _ _ _ _).keptC _ _ _ _ _ a.p K h1 h2 h3, (stable_num _ _).keptC _ _ _ _ _ a.r K h1 h2 h3, (stable_nat _ _).keptC _ _ _ _ _ a.d K h1 h2 h3, (stable_world _ _ _ _ _ _ _ _ _ _).keptC _ _ _ _ _ a.s K h1 h2 h3⟩⟩
/-- The two frames' row when the callee is entered. -/
structure TwoF (cur fs0 : Array Value) (cap : Nat) (pv gv sv r7 mv sg vv cw a0 a1 a2 a3 : Value) : Prop where
  o : ∀ k, k < 60 → k ≠ 3 → k ≠ 4 → k ≠ 6 → k ≠ 7 → k ≠ 8 → k ≠ 9 → cur[k]? = fs0[k]?
  c3 : cur[3]? = some pv
  c4 : cur[4]? = some gv
  c6 : cur[6]? = some nilS
  c7 : cur[7]? = some r7
  c8 : cur[8]? = some sv
  c9 : cur[9]? = some mv
  i : ∀ k, k < 60 → cur[60 + k]? = (frD sg vv cw nilS (wrow4 a0 a1 a2 a3))[k]?
  sz : cur.size = cap * 60
  mx : cap ≤ maxLen
  two : 2 ≤ cap
  sg1 : sg.oneCell' = true
theorem TwoF.frC {cur fs0 : Array Value} {cap : Nat} {pv gv sv r7 mv sg vv cw a0 a1 a2 a3 : Value} (h : TwoF cur fs0 cap pv gv sv r7 mv sg vv cw a0 a1 a2 a3) : FrC cur 60 cw := by
  refine ⟨h.i 1 (by decide), h.i 2 (by decide), h.i 10 (by decide), ?_, by have := h.sz; have := h.two; omega⟩
  have hz := h.sz
  have h2c := h.two
  apply Array.ext (by simp [ad]; omega)
  intro i h1 h2
  simp only [Array.getElem_extract]
  simp only [Array.size_extract] at h1
  have e := h.i (12 + i) (by omega)
  rw [← Nat.add_assoc, Array.getElem?_eq_getElem (by omega)] at e
  have hi : i < 20 := by omega
  refine Option.some.inj (e.trans ?_)
  simp only [List.size_toArray, List.length_map] at h2
  rw [List.getElem_toArray, ← List.getElem?_eq_getElem (by simpa using h2)]
  rw [frD, List.getElem?_append_right (by simp), List.getElem?_append_left (by simp [ad]; omega)]
  congr 1
  simp
theorem stepS_delegate (w0 : World) (c fb cap : Nat) (fs0 : Array Value) (m G : Nat) (ns : List Nat) (la : List (List Nat)) (so : Option (Nat × Nat)) (R : Nat) (ds1 ds2 : List Nat) (K AA : Nat) (cv vv : Value) (mp : Option Addr) (mc : Nat) (w : World) (hS : StV w0 (fun w => NatV w cv ds1) c fb 0 1 cap fs0 m G (ns ++ [0, 0, 0, 0, 2, AA]) (.slice mp 0 mc) la (some K) so R ds1 ds2 w) (hfc : FrC fs0 0 cv) (hv : fs0[5]? = some vv) (hv1 : vv.oneCell' = true) (hca : fs0.extract 32 (32 + 20) = ((ad 240).map n8).toArray) (hm : ds1[m]? = some 244) (hl : ds1.length ≤ 1000) (hns : ns.length ≤ 20) (hm1 : m ≤ 900) (hso : so = none ∨ ∃ V, so = some (K, V)) (hla : decide (ad 2 ∈ la) = false) (hl0 : 0 < (adWith la (ad 2)).length) (hl1 : la.length ≤ 15) (hl2 : (adWith la (ad 2)).length ≤ 20) (hsz : fs0.size = cap * 60) (hcap : cap ≤ maxLen) (hc1 : 1 ≤ cap) (hkG : 2600 ≤ G) (hG : G < 1000000) :
    Calls Salg.prog 27 #[.pointer (some ⟨c, 0, none⟩)] w fun e w' => e = .returned (.bool true) ∧ ∃ (fb' cap' : Nat) (cur : Array Value) (pv gv sv r7 cw sg a0 a1 a2 a3 : Value) (xs : List Value), TwoF cur fs0 cap' pv gv sv r7 (.slice mp 0 mc) sg vv cw a0 a1 a2 a3 ∧ StV w0 (InV cv cw pv gv sv r7 a0 a1 a2 a3 xs m (G - 2600 - min AA (G - 2600 - (G - 2600) / 64)) ns (adWith la (ad 2)) (some K) so R ds1 ds2) c fb' 60 2 cap' cur 0 (min AA (G - 2600 - (G - 2600) / 64)) [] nilS (adWith la (ad 2)) (some K) so R ds1 ds2 w' := by
  obtain ⟨cs, c1, c9, c11, _⟩ := hS.ch.row
  have hA := stable_nat cv ds1
  have hG2 : G < 256 ^ 100 := Nat.lt_of_lt_of_le hG (by decide)
  refine step_enter1 c fb m G 2600 0 16 0 0 0 244 cs fs0 cap _ cv (.slice mp 0 mc) ds1 (fun w' => FrameQ w' fb 0 fs0 m (G - 2600) (ns ++ [0, 0, 0, 0, 2, AA]) (.slice mp 0 mc)) _ (fun _ _ => True) w (by decide) c1 c9 c11 hS.fr hS.a hm hl hfc hkG (Nat.lt_of_lt_of_le hG2 (by decide)) ?_ ?_ ?_ family_delegatecall rfl ?_
  · intro w' K1
    have hF := hS.fr.kept K1
    refine refusal_delegatecall _ fb 0 m G _ fs0 cv _ _ w' hF hfc (by simp) (by simp; omega) hkG fun w1 K2 => ?_
    have hF1 := hF.kept K2
    obtain ⟨fs, pv, gv, sv, xs, h1, h0, h2, h3, h4, h5, h6, h7, h8, h9, ha⟩ := hF1
    have hC1 := (hS.ch.kept K1).kept K2
    refine cost_00 _ fb 0 244 2600 fs _ _ w1 h1 ha (by decide) (fun w2 K3 => ?_) (fun w2 K3 => ?_)
    · exact bareCost_enter _ _ _ w2 (enterCost_delegate c fb 0 AA m G fs0 _ _ ns la (some K) so R ds1 ds2 w2 (hC1.kept K3) ((hF.kept K2).kept K3) (by omega) hla)
    · exact reach_delegate fb 0 AA 2 m G fs0 _ ns w2 ((hF.kept K2).kept K3) (by omega)
  · intro w' K1 hF
    exact reach_delegate fb 0 AA 2 m (G - 2600) fs0 _ ns w' hF (by omega)
  · intro w' r K1 hF hr
    exact growF (W := 0) (fun fs r w a b c => growk_00 fb 0 fs _ _ r w a b c) r hF hr
  · intro w' K1 hF
    have hS2 := hS.frame hA K1 hF
    have hC2 := hS2.ch
    obtain ⟨vz, wz, mv', rv, lim, gv0, pr, tv, d1, d2, d3, d4, d5, d6⟩ := hC2
    refine enters_D c fb 0 _ w' _ d1 (Nat.le_of_ble_eq_true (by kernel_rfl)) fun w1 K2 hr1 => ?_
    rw [show (chR vz wz mv' rv (.slice (some ⟨fb, 0, none⟩) 1 cap) lim gv0 pr tv).setIfInBounds 10 nilS = chR vz wz mv' rv (.slice (some ⟨fb, 0, none⟩) 1 cap) lim gv0 pr tv from by kernel_rfl] at hr1
    have hnb := chR_nb vz wz mv' rv (.slice (some ⟨fb, 0, none⟩) 1 cap) lim gv0 pr tv
    have hC3 : ChainV w1 c (.slice (some ⟨fb, 0, none⟩) 1 cap) la (some K) so R ds1 ds2 := ⟨vz, wz, mv', rv, lim, gv0, pr, tv, hr1, WorldW.keptC d2 K2 d1 hnb wtype119, d3.keptC K2 d1 hnb, d4.keptC K2 d1 hnb, d5.keptC K2 d1 hnb, d6⟩
    have hF3 := hF.keptC K2 d1 hnb (by decide) (by decide)
    have hN3 : NatV w1 cv ds1 := NatV.keptC hS2.a K2 d1 hnb
    refine (enterCall_D c K w0.heap.size fb cap m (G - 2600) AA fs0 cv vv _ ns la so R ds1 ds2 w1 hC3 hF3 hfc hv hv1 hca hns (by omega) hso hl0 hl1 hl2 hsz hcap hc1 hS.b (by omega)).mono ?_
    rintro e w2 ⟨r, fb', cap', cur, pv, gv, sv, r7, cw, sg, a0, a1, a2, a3, xs, rfl, e1, e2, e3, e4, e5, e6, e7, e8, e9, ea, eb, ec, ed, ee, ef, eg, eh, ei, ej, ek, K3⟩
    exact ⟨r, rfl, fb', cap', cur, pv, gv, sv, r7, cw, sg, a0, a1, a2, a3, xs, ⟨e4, e5, e6, e7, e8, e9, ea, ed, eg, eh, ei, ee.one⟩, (hS2.k.trans K2).outer K3 hS.b, e3, e1, ⟨cur, nilS, sg, nilS, [], e2, rfl, fun _ _ _ _ _ => rfl, ed 3 (by decide), nil_num _, ed 4 (by decide), ee, ed 8 (by decide), .inl ⟨rfl, rfl⟩, ⟨rfl, fun k v n h => by simp at h⟩, ed 9 (by decide)⟩, ⟨ek _ _ hN3, eb, ec, ef, ej⟩⟩
theorem stepS_ok (w0 : World) (c fb cap : Nat) (cur fs0 : Array Value) (m G : Nat) (ns : List Nat) (la la' : List (List Nat)) (mo mo' : Option Nat) (so so' : Option (Nat × Nat)) (R R' : Nat) (ds1 ds2 : List Nat) (cv cw pv gv sv r7 sg vv a0 a1 a2 a3 : Value) (xs : List Value) (m1 G1 : Nat) (ns1 : List Nat) (mp : Option Addr) (mc : Nat) (mv : Value) (w : World) (hT : TwoF cur fs0 cap pv gv sv r7 mv sg vv cw a0 a1 a2 a3) (hS : StV w0 (InV cv cw pv gv sv r7 a0 a1 a2 a3 xs m1 G1 ns1 la' mo' so' R' ds1 ds2) c fb 60 2 cap cur m G ns (.slice mp 0 mc) la mo so R ds1 ds2 w) (hv1 : vv.oneCell' = true) (hm : ds2[m]? = some 0) (hl : ds2.length ≤ 1000) (hns : ns.length ≤ 20) (hm1 : m ≤ 900) (hl1 : ns1.length ≤ 20) (hm2 : m1 ≤ 900) (hG1 : G1 < 256 ^ 100) (hG : G < 256 ^ 100) :
    Calls Salg.prog 27 #[.pointer (some ⟨c, 0, none⟩)] w fun e w' => e = .returned (.bool true) ∧ ∃ fs1, (∀ k, k < 60 → fs1[k]? = cur[k]?) ∧ fs1.size = cur.size ∧ StV w0 (fun w => NatV w cv ds1) c fb 0 1 1 fs1 (m1 + 1) (G1 + G) (ns1 ++ [1]) mv la mo so R ds1 ds2 w' := by
  obtain ⟨cs, c1, c9, c11, _⟩ := hS.ch.row
  have hA := stable_in cv cw pv gv sv r7 a0 a1 a2 a3 xs m1 G1 ns1 la' mo' so' R' ds1 ds2
  have hfc := hT.frC
  refine step_stop2 c fb m G 0 0 0 0 0 0 cs cur cap _ cw (.slice mp 0 mc) ds2 (fun w' => FrameQ w' fb 60 cur m (G - 0) ns (.slice mp 0 mc)) _ (fun _ _ => True) w c1 c9 c11 hS.fr hS.a.d hm hl hfc (Nat.zero_le _) (Nat.lt_of_lt_of_le hG (by decide)) ?_ ?_ ?_ ?_
  · intro w' K1
    have hF := hS.fr.kept K1
    refine refusal_stop _ fb 60 m G _ cur cw _ _ w' hF hfc (by simp) (by (try simp); omega) (Nat.zero_le _) fun w1 K2 => ?_
    have hF1 := hF.kept K2
    obtain ⟨fs, pv, gv, sv, xs, h1, h0, h2, h3, h4, h5, h6, h7, h8, h9, ha⟩ := hF1
    refine cost_00 _ fb 60 0 0 fs _ _ w1 h1 ha (by decide) (fun w2 K3 => ?_) (fun w2 K3 => ?_)
    · exact bareCost_stop _ _ w2
    · skip
      refine (reach_stop _ w2).mono ?_
      rintro e w3 ⟨rfl, rfl⟩
      exact ⟨_, rfl, nil_num _, Kept.refl _ _⟩
  · intro w' K1 hF
    refine (reach_stop _ w').mono ?_
    rintro e w3 ⟨rfl, rfl⟩
    exact ⟨_, rfl, nil_num _, Kept.refl _ _⟩
  · intro w' r K1 hF hr
    exact growF (W := 0) (fun fs r w a b c => growk_00 fb 60 fs _ _ r w a b c) r hF hr
  · intro w' K1 hF
    have hS2 := hS.frame hA K1 hF
    refine (leave_ok c fb cap m1 G1 m (G - 0) cur ns1 _ la la' mo mo' so so' R R' ds1 ds2 pv gv sv r7 sg vv cw a0 a1 a2 a3 mv _ xs w' hS2.ch hF hT.i hS2.a.p hT.c3 hT.c4 hT.c7 hT.c8 hT.c9 hS2.a.r hS2.a.s hT.sz hT.two hT.mx (by omega) hm2 hG1 hG hT.sg1 hv1 hS2.a.d.one rfl).mono ?_
    rintro e w'' ⟨r, fs1, rfl, e1, e2, e3, e4, e5, K⟩
    exact ⟨r, rfl, fs1, e3, e4, hS2.k.outer K hS.b, hS.b, e1, e2, e5 _ _ hS2.a.c⟩
theorem stepS_revert (w0 : World) (c fb cap : Nat) (cur fs0 : Array Value) (m G : Nat) (ns : List Nat) (la la' : List (List Nat)) (mo mo' : Option Nat) (so so' : Option (Nat × Nat)) (R R' : Nat) (ds1 ds2 : List Nat) (cv cw pv gv sv r7 sg vv a0 a1 a2 a3 : Value) (xs : List Value) (m1 G1 : Nat) (ns1 : List Nat) (mp : Option Addr) (mc : Nat) (mv : Value) (w : World) (hT : TwoF cur fs0 cap pv gv sv r7 mv sg vv cw a0 a1 a2 a3) (hS : StV w0 (InV cv cw pv gv sv r7 a0 a1 a2 a3 xs m1 G1 ns1 la' mo' so' R' ds1 ds2) c fb 60 2 cap cur m G (ns ++ [0, 0]) (.slice mp 0 mc) la mo so R ds1 ds2 w) (hv1 : vv.oneCell' = true) (hm : ds2[m]? = some 253) (hl : ds2.length ≤ 1000) (hns : ns.length ≤ 20) (hm1 : m ≤ 900) (hl1 : ns1.length ≤ 20) (hm2 : m1 ≤ 900) (hG1 : G1 < 256 ^ 100) (hG : G < 256 ^ 100) :
    Calls Salg.prog 27 #[.pointer (some ⟨c, 0, none⟩)] w fun e w' => e = .returned (.bool true) ∧ ∃ fs1, (∀ k, k < 60 → fs1[k]? = cur[k]?) ∧ fs1.size = cur.size ∧ StV w0 (fun w => NatV w cv ds1) c fb 0 1 1 fs1 (m1 + 1) (G1 + G) (ns1 ++ [0]) mv la' mo' so' R' ds1 ds2 w' := by
  obtain ⟨cs, c1, c9, c11, _⟩ := hS.ch.row
  have hA := stable_in cv cw pv gv sv r7 a0 a1 a2 a3 xs m1 G1 ns1 la' mo' so' R' ds1 ds2
  have hfc := hT.frC
  refine step_revert2 c fb m G 0 0 0 0 0 0 cs cur cap _ cw (.slice mp 0 mc) ds2 (fun w' => FrameQ w' fb 60 cur m (G - 0) (ns ++ [0, 0]) (.slice mp 0 mc)) _ (fun u w' => u = nilS ∧ FrameQ w' fb 60 cur m (G - 0) (ns ++ [0, 0]) (.slice mp 0 mc)) w c1 c9 c11 hS.fr hS.a.d hm hl hfc (Nat.zero_le _) (Nat.lt_of_lt_of_le hG (by decide)) ?_ ?_ ?_ ?_ ?_ ?_ ?_
  · intro w' K1
    have hF := hS.fr.kept K1
    refine refusal_revert _ fb 60 m G _ cur cw _ _ w' hF hfc (by simp) (by (try simp); omega) (Nat.zero_le _) fun w1 K2 => ?_
    have hF1 := hF.kept K2
    obtain ⟨fs, pv, gv, sv, xs, h1, h0, h2, h3, h4, h5, h6, h7, h8, h9, ha⟩ := hF1
    refine cost_00 _ fb 60 253 0 fs _ _ w1 h1 ha (by decide) (fun w2 K3 => ?_) (fun w2 K3 => ?_)
    · exact bareCost_revert _ _ w2
    · skip
      exact reach_revert fb 60 0 0 m G cur _ ns w2 ((hF.kept K2).kept K3) (by omega) (by decide) rfl
  · intro w' K1 hF
    exact reach_revert fb 60 0 0 m (G - 0) cur _ ns w' hF (by omega) (by decide) rfl
  · intro w' r K1 hF hr
    exact growF (W := 0) (fun fs r w a b c => growk_00 fb 60 fs _ _ r w a b c) r hF hr
  · intro w' K1 hF
    refine (arg_F fb 60 0 0 m (G - 0) cur _ _ w' hF (by simp) (by simp) (by simp; omega)).mono ?_
    rintro e w'' ⟨r, rfl, e1, K⟩
    exact ⟨r, rfl, e1, hF.kept K, K⟩
  · intro w' K1 hF
    refine (arg_F fb 60 1 0 m (G - 0) cur _ _ w' hF (by simp) (by simp) (by simp; omega)).mono ?_
    rintro e w'' ⟨r, rfl, e1, K⟩
    exact ⟨r, rfl, e1, hF.kept K, K⟩
  · intro w' r r' K1 hF hr hr'
    refine (read_zero _ r r' w' hr').mono ?_
    rintro e w'' ⟨rfl, K⟩
    exact ⟨_, rfl, ⟨rfl, hF.kept K⟩, K⟩
  · rintro w' u K1 ⟨rfl, hF⟩
    have hS2 := hS.frame hA K1 hF
    refine (leave_revert c fb cap m1 G1 m (G - 0) cur ns1 _ la la' mo mo' so so' R R' ds1 ds2 pv gv sv r7 sg vv cw a0 a1 a2 a3 mv _ xs w' hS2.ch hF hT.i hS2.a.p hT.c3 hT.c4 hT.c7 hT.c8 hT.c9 hS2.a.r hS2.a.s hT.sz hT.two hT.mx (by omega) hm2 hG1 hG hT.sg1 hv1 hS2.a.d.one rfl).mono ?_
    rintro e w'' ⟨r, fs1, rfl, e1, e2, e3, e4, e5, K⟩
    exact ⟨r, rfl, fs1, e3, e4, hS2.k.outer K hS.b, hS.b, e1, e2, e5 _ _ hS2.a.c⟩
theorem stepS_fail (w0 : World) (c fb cap : Nat) (cur fs0 : Array Value) (m G : Nat) (ns : List Nat) (la la' : List (List Nat)) (mo mo' : Option Nat) (so so' : Option (Nat × Nat)) (R R' : Nat) (ds1 ds2 : List Nat) (cv cw pv gv sv r7 sg vv a0 a1 a2 a3 : Value) (xs : List Value) (m1 G1 : Nat) (ns1 : List Nat) (mp : Option Addr) (mc : Nat) (mv : Value) (w : World) (hT : TwoF cur fs0 cap pv gv sv r7 mv sg vv cw a0 a1 a2 a3) (hS : StV w0 (InV cv cw pv gv sv r7 a0 a1 a2 a3 xs m1 G1 ns1 la' mo' so' R' ds1 ds2) c fb 60 2 cap cur m G ns (.slice mp 0 mc) la mo so R ds1 ds2 w) (hv1 : vv.oneCell' = true) (hm : ds2[m]? = some 254) (hl : ds2.length ≤ 1000) (hns : ns.length ≤ 20) (hm1 : m ≤ 900) (hl1 : ns1.length ≤ 20) (hm2 : m1 ≤ 900) (hG1 : G1 < 256 ^ 100) (hG : G < 256 ^ 100) :
    Calls Salg.prog 27 #[.pointer (some ⟨c, 0, none⟩)] w fun e w' => e = .returned (.bool true) ∧ ∃ fs1, (∀ k, k < 60 → fs1[k]? = cur[k]?) ∧ fs1.size = cur.size ∧ StV w0 (fun w => NatV w cv ds1) c fb 0 1 1 fs1 (m1 + 1) (G1 + 0) (ns1 ++ [0]) mv la' mo' so' R' ds1 ds2 w' := by
  obtain ⟨cs, c1, c9, c11, _⟩ := hS.ch.row
  have hA := stable_in cv cw pv gv sv r7 a0 a1 a2 a3 xs m1 G1 ns1 la' mo' so' R' ds1 ds2
  have hfc := hT.frC
  refine step_refused2 c fb m G 0 0 0 5 0 0 cs cur cap _ cw (.slice mp 0 mc) ds2 (fun _ => True) _ (fun _ _ => True) w c1 c9 c11 hS.fr hS.a.d hm hl hfc (Nat.zero_le _) (Nat.lt_of_lt_of_le hG (by decide)) (fun w' K1 => refusal_invalid _ _ w') (by decide) ?_
  · intro w' K1
    have hS2 := hS.frame hA (K1.mono (by simp)) (hS.fr.kept K1)
    have hF := hS2.fr
    refine (leave_fail c fb cap m1 G1 m G cur ns1 _ la la' mo mo' so so' R R' ds1 ds2 pv gv sv r7 sg vv cw a0 a1 a2 a3 mv _ xs w' hS2.ch hF hT.i hS2.a.p hT.c3 hT.c4 hT.c7 hT.c8 hT.c9 hS2.a.r hS2.a.s hT.sz hT.two hT.mx (by omega) hm2 hG1 hG hT.sg1 hv1 hS2.a.d.one rfl).mono ?_
    rintro e w'' ⟨r, fs1, rfl, e1, e2, e3, e4, e5, K⟩
    exact ⟨r, rfl, fs1, e3, e4, hS2.k.outer K hS.b, hS.b, e1, e2, e5 _ _ hS2.a.c⟩
end Go.Proofs.YgcsalGreat

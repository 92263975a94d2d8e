/-
  A run's state: the top frame at an offset of its block, the chain's row, the world; the storage's laws for any case.
-/
import Derived.Test.YgcsalGreatSl24
import Derived.Test.YgcsalGreatSl15
import Derived.Test.YgcsalGreatSl22
import Derived.Test.YgcsalGreatSl19
set_option linter.unusedSimpArgs false
set_option linter.unusedVariables false
namespace Go.Own
/-- A frame at offset q: like fs0 but for the counter m, the gas G, the stack ns and the memory's cell mv. -/
def FrameQ (w : World) (fb q : Nat) (fs0 : Array Value) (m G : Nat) (ns : List Nat) (mv : Value) : Prop := ∃ (fs : Array Value) (pv gv sv : Value) (xs : List Value), w.heap[fb]? = some (.cells fs 142 (0, 0)) ∧ fs.size = fs0.size ∧ (∀ k, k ≠ q + 3 → k ≠ q + 4 → k ≠ q + 8 → k ≠ q + 9 → fs[k]? = fs0[k]?) ∧ fs[q + 3]? = some pv ∧ NumV w pv m ∧ fs[q + 4]? = some gv ∧ NumV w gv G ∧ fs[q + 8]? = some sv ∧ RowV w 89 sv xs ∧ NumsV w xs ns ∧ fs[q + 9]? = some mv
theorem FrameQ.kept {w w' : World} {fb q : Nat} {fs0 : Array Value} {m G : Nat} {ns : List Nat} {mv : Value} (h : FrameQ w fb q fs0 m G ns mv) (k : Kept [] w w') : FrameQ w' fb q fs0 m G ns mv := by
  obtain ⟨fs, pv, gv, sv, xs, h1, h0, h2, h3, h4, h5, h6, h7, h8, h9, ha⟩ := h
  exact ⟨fs, pv, gv, sv, xs, k.row h1 (by simp), h0, h2, h3, h4.kept k, h5, h6.kept k, h7, h8.kept k, h9.kept k, ha⟩
theorem FrameQ.keptC {w w' : World} {fb q : Nat} {fs0 : Array Value} {m G : Nat} {ns : List Nat} {mv : Value} {c tc : Nat} {cs : Array Value} (h : FrameQ w fb q fs0 m G ns mv) (k : Kept [c] w w') (hr : w.heap[c]? = some (.cells cs tc (0, 0))) (ho : ∀ t l, Obj.cells cs tc (0, 0) ≠ R8 t l) (ht : tc ≠ 142) (ht2 : tc ≠ 89) : FrameQ w' fb q fs0 m G ns mv := by
  obtain ⟨fs, pv, gv, sv, xs, h1, h0, h2, h3, h4, h5, h6, h7, h8, h9, ha⟩ := h
  exact ⟨fs, pv, gv, sv, xs, k.row h1 (row_ne hr h1 (by rintro h; cases h; exact ht rfl)), h0, h2, h3, h4.keptC k hr ho, h5, h6.keptC k hr ho, h7, h8.keptC k hr ht2, h9.keptC k hr ho, ha⟩
/-- What does not change in a frame. -/
structure FrC (fs0 : Array Value) (q : Nat) (cv : Value) : Prop where
  f1 : fs0[q + 1]? = some (.int .u8 0)
  f2 : fs0[q + 2]? = some (.bool false)
  f10 : fs0[q + 10]? = some cv
  self : fs0.extract (q + 12) (q + 12 + 20) = ((ad 1).map n8).toArray
  size : q + 60 ≤ fs0.size
theorem ext_same {fs fs0 : Array Value} {a n : Nat} (hs : fs.size = fs0.size) (h : ∀ k, a ≤ k → k < a + n → fs[k]? = fs0[k]?) : fs.extract a (a + n) = fs0.extract a (a + n) := by
  apply Array.ext (by simp [hs])
  intro i h1 h2
  simp only [Array.getElem_extract]
  simp only [Array.size_extract] at h1 h2
  have := h (a + i) (by omega) (by omega)
  rw [Array.getElem?_eq_getElem (by omega), Array.getElem?_eq_getElem (by omega)] at this
  exact Option.some.inj this
theorem WorldW.kept {w w' : World} {a0 a1 a2 a3 : Value} {la : List (List Nat)} {mo : Option Nat} {so : Option (Nat × Nat)} {R N1 B1 N2 B2 N3 B3 : Nat} {ds1 ds2 : List Nat} (h : WorldW w a0 a1 a2 a3 la mo so R N1 B1 N2 B2 N3 B3 ds1 ds2) (k : Kept [] w w') : WorldW w' a0 a1 a2 a3 la mo so R N1 B1 N2 B2 N3 B3 ds1 ds2 := by
  obtain ⟨nv, bv, cu, sl, nv2, bv2, cu2, nv3, bv3, h1, h2, h3, h4, h5, h6, h7, h8, h9, ha, hb, hc, hd⟩ := h
  exact ⟨nv, bv, cu, sl, nv2, bv2, cu2, nv3, bv3, h1.kept k, h2.kept k, h3.kept k, h4.kept k, h5.kept k, h6.kept k, h7.kept k, h8.kept k, h9.kept k, ha.kept k, hb.kept k, hc.kept k, hd.kept k⟩
/-- A type that no part of a world has. -/
def WType (tc : Nat) : Prop := tc ≠ 128 ∧ tc ≠ 45 ∧ tc ≠ 133 ∧ tc ≠ 213
theorem WorldW.keptC {w w' : World} {a0 a1 a2 a3 : Value} {la : List (List Nat)} {mo : Option Nat} {so : Option (Nat × Nat)} {R N1 B1 N2 B2 N3 B3 : Nat} {ds1 ds2 : List Nat} {c tc : Nat} {cs : Array Value} (h : WorldW w a0 a1 a2 a3 la mo so R N1 B1 N2 B2 N3 B3 ds1 ds2) (k : Kept [c] w w') (hr : w.heap[c]? = some (.cells cs tc (0, 0))) (ho : ∀ t l, Obj.cells cs tc (0, 0) ≠ R8 t l) (ht : WType tc) : WorldW w' a0 a1 a2 a3 la mo so R N1 B1 N2 B2 N3 B3 ds1 ds2 := by
  obtain ⟨nv, bv, cu, sl, nv2, bv2, cu2, nv3, bv3, h1, h2, h3, h4, h5, h6, h7, h8, h9, ha, hb, hc, hd⟩ := h
  obtain ⟨t1, t2, t3, t4⟩ := ht
  exact ⟨nv, bv, cu, sl, nv2, bv2, cu2, nv3, bv3, h1.keptC k hr t1, h2.keptC k hr t2, MarkV.keptC k hr ho t4 h3, h4.keptC k hr ho, SlotV.keptC k hr ho t3 h5, h6.keptC k hr ho, h7.keptC k hr ho, h8.keptC k hr ho, h9.keptC k hr ho, ha.keptC k hr ho, hb.keptC k hr ho, hc.keptC k hr ho, hd.keptC k hr ho⟩
/-- The chain's row while a transaction runs. -/
def chR (vz wz mv rv fr lim gv pr tv : Value) : Array Value := (chL [vz, wz, mv, rv, nilS, nilS, nilS, nilS, nilS, fr, nilS, .int .u8 1, .int .u8 0, .int .u8 1, lim, gv, nilS, pr, tv] (ad 240) z20).toArray
def WorldS (w : World) (a0 a1 a2 a3 : Value) (la : List (List Nat)) (mo : Option Nat) (so : Option (Nat × Nat)) (R : Nat) (ds1 ds2 : List Nat) : Prop := WorldW w a0 a1 a2 a3 la mo so R 1 0 1 0 1 340282366920938463463374607431768211456 ds1 ds2
theorem chR_nb (vz wz mv rv fr lim gv pr tv : Value) : ∀ t l, Obj.cells (chR vz wz mv rv fr lim gv pr tv) 119 (0, 0) ≠ R8 t l := not_bytes_at (i := 4) (p := none) (n := 0) (m := 0) (by kernel_rfl)
theorem wtype119 : WType 119 := by unfold WType; decide
theorem wtype142 : WType 142 := by unfold WType; decide
/-- The chain while a transaction runs: its frames' cell, its world. -/
def ChainV (w : World) (c : Nat) (fr : Value) (la : List (List Nat)) (mo : Option Nat) (so : Option (Nat × Nat)) (R : Nat) (ds1 ds2 : List Nat) : Prop := ∃ (vz wz mv rv lim gv pr tv : Value), w.heap[c]? = some (.cells (chR vz wz mv rv fr lim gv pr tv) 119 (0, 0)) ∧ WorldS w vz wz mv rv la mo so R ds1 ds2 ∧ NumV w lim 200000 ∧ NumV w pr 0 ∧ NumV w tv 340282366920938463463374607431768211456 ∧ gv.oneCell' = true
theorem ChainV.kept {w w' : World} {c : Nat} {fr : Value} {la : List (List Nat)} {mo : Option Nat} {so : Option (Nat × Nat)} {R : Nat} {ds1 ds2 : List Nat} (h : ChainV w c fr la mo so R ds1 ds2) (k : Kept [] w w') : ChainV w' c fr la mo so R ds1 ds2 := by
  obtain ⟨vz, wz, mv, rv, lim, gv, pr, tv, h1, h2, h3, h4, h5, h6⟩ := h
  exact ⟨vz, wz, mv, rv, lim, gv, pr, tv, k.row h1 (by simp), WorldW.kept h2 k, h3.kept k, h4.kept k, h5.kept k, h6⟩
theorem ChainV.keptC {w w' : World} {c : Nat} {fr : Value} {la : List (List Nat)} {mo : Option Nat} {so : Option (Nat × Nat)} {R : Nat} {ds1 ds2 : List Nat} {b : Nat} {fs : Array Value} (h : ChainV w c fr la mo so R ds1 ds2) (k : Kept [b] w w') (hr : w.heap[b]? = some (.cells fs 142 (0, 0))) (ho : ∀ t l, Obj.cells fs 142 (0, 0) ≠ R8 t l) : ChainV w' c fr la mo so R ds1 ds2 := by
  obtain ⟨vz, wz, mv, rv, lim, gv, pr, tv, h1, h2, h3, h4, h5, h6⟩ := h
  exact ⟨vz, wz, mv, rv, lim, gv, pr, tv, k.row h1 (row_ne hr h1 (by rintro h; cases h)), WorldW.keptC h2 k hr ho wtype142, h3.keptC k hr ho, h4.keptC k hr ho, h5.keptC k hr ho, h6⟩
theorem ChainV.frame {w : World} {c : Nat} {fr : Value} {la : List (List Nat)} {mo : Option Nat} {so : Option (Nat × Nat)} {R : Nat} {ds1 ds2 : List Nat} (h : ChainV w c fr la mo so R ds1 ds2) {fb : Nat} {fs : Array Value} (hr : w.heap[fb]? = some (.cells fs 142 (0, 0))) : fb ∉ [c] := by
  obtain ⟨vz, wz, mv, rv, lim, gv, pr, tv, h1, _⟩ := h
  exact row_ne h1 hr (by rintro h; cases h)
theorem ChainV.num {w w' : World} {c : Nat} {fr : Value} {la : List (List Nat)} {mo : Option Nat} {so : Option (Nat × Nat)} {R : Nat} {ds1 ds2 : List Nat} (h : ChainV w c fr la mo so R ds1 ds2) (K : Kept [c] w w') {v : Value} {n : Nat} (hn : NumV w v n) : NumV w' v n := by
  obtain ⟨vz, wz, mv, rv, lim, gv, pr, tv, h1, _⟩ := h
  exact hn.keptC K h1 (chR_nb _ _ _ _ _ _ _ _ _)
/-- The value in the slot. -/
def slotVal : Option (Nat × Nat) → Nat
  | none => 0
  | some p => p.2
/-- The slots behind a store of V at K. -/
def slotNew (K V : Nat) : Option (Nat × Nat) := if V = 0 then none else some (K, V)
def sCost (b : Bool) (V N : Nat) : Nat := (if N = V then 100 else if V = 0 then 20000 else 100) + (if b then 0 else 2100)
def sPlus (V N : Nat) : Nat := if N = V then 0 else if N = 0 then 19900 else 0
/-- No slot and no mark but those of K. -/
def KeyOk (K : Nat) (mo : Option Nat) (so : Option (Nat × Nat)) : Prop := (mo = none ∨ mo = some K) ∧ (so = none ∨ ∃ V, so = some (K, V))
theorem set_same {cs : Array Value} {k : Nat} {v : Value} (h : cs[k]? = some v) : cs.setIfInBounds k v = cs := by
  apply Array.ext_getElem?
  intro i
  by_cases e : k = i
  · subst e
    obtain ⟨h3, h4⟩ := Array.getElem?_eq_some_iff.1 h
    rw [Array.getElem?_setIfInBounds_self_of_lt h3, h]
  · rw [Array.getElem?_setIfInBounds_ne e]
end Go.Own
namespace Go.Proofs.YgcsalGreat
open Go.RowKit Go.Own
theorem sstore_all (vv nn : Value) (V N : Nat) (b : Bool) (w : World) (hv : NumV w vv V) (hn : NumV w nn N) :
    Calls Salg.prog 255 #[nilS, vv, nn, .bool (!b)] w fun e w' => ∃ c p m, e = .returned (.tuple #[c, p, m]) ∧ NumV w' c (sCost b V N) ∧ NumV w' p (sPlus V N) ∧ NumV w' m 0 ∧ Kept [] w w' := by
  unfold sCost sPlus
  by_cases h1 : N = V
  · subst h1
    simp only [if_true]
    cases b
    · exact sstore_same_cold nilS vv nn N w (nil_num w) hv hn
    · exact sstore_same_warm nilS vv nn N w (nil_num w) hv hn
  · simp only [if_neg h1]
    by_cases h2 : V = 0
    · subst h2
      simp only [if_true, if_neg h1]
      cases b
      · exact sstore_first_cold nilS vv nn N w (nil_num w) hv hn h1
      · exact sstore_first_warm nilS vv nn N w (nil_num w) hv hn h1
    · simp only [if_neg h2]
      by_cases h3 : N = 0
      · subst h3
        simp only [if_true]
        cases b
        · exact sstore_clear_cold nilS vv nn V w (nil_num w) hv hn h2
        · exact sstore_clear_warm nilS vv nn V w (nil_num w) hv hn h2
      · simp only [if_neg h3]
        cases b
        · exact sstore_turn_cold nilS vv nn V N w (nil_num w) hv hn h1 h2 h3
        · exact sstore_turn_warm nilS vv nn V N w (nil_num w) hv hn h1 h2 h3
theorem load_all (c tc : Nat) (cs : Array Value) (va nv bv cu sl nv2 bv2 cu2 nv3 bv3 kv : Value) (K : Nat) (so : Option (Nat × Nat)) (w : World) (hc : w.heap[c]? = some (.cells cs tc (0, 0))) (h0 : cs[0]? = some va) (hv : AcsV w va (l3 nv bv cu sl nv2 bv2 cu2 nv3 bv3)) (hs : SlotV w sl so) (hso : so = none ∨ ∃ V, so = some (K, V)) (hk : NumV w kv K) :
    Calls Salg.prog 225 #[.pointer (some ⟨c, 0, none⟩), A8 (ad 1), kv] w fun e w' => ∃ r, e = .returned r ∧ NumV w' r (slotVal so) ∧ Kept [] w w' := by
  rcases hso with rfl | ⟨V, rfl⟩
  · exact load_none c tc cs va nv bv cu sl nv2 bv2 cu2 nv3 bv3 kv K w hc h0 hv hs hk
  · exact load_some c tc cs va nv bv cu sl nv2 bv2 cu2 nv3 bv3 kv K V w hc h0 hv hs hk
theorem isWarmSlot_all (c tc : Nat) (cs : Array Value) (mv kv : Value) (K : Nat) (mo : Option Nat) (w : World) (hc : w.heap[c]? = some (.cells cs tc (0, 0))) (h2 : cs[2]? = some mv) (hm : MarkV w mv mo) (hmo : mo = none ∨ mo = some K) (hk : NumV w kv K) :
    Calls Salg.prog 168 #[.pointer (some ⟨c, 0, none⟩), A8 (ad 1), kv] w fun e w' => e = .returned (.bool mo.isSome) ∧ Kept [] w w' := by
  rcases hmo with rfl | rfl
  · exact isWarmSlot_none c tc cs mv kv K w hc h2 hm hk
  · exact isWarmSlot_some c tc cs mv kv K w hc h2 hm hk
theorem warmSlot_all (c tc : Nat) (cs : Array Value) (mv kv : Value) (K : Nat) (mo : Option Nat) (w : World) (hc : w.heap[c]? = some (.cells cs tc (0, 0))) (h2 : cs[2]? = some mv) (hm : MarkV w mv mo) (hmo : mo = none ∨ mo = some K) (hk : NumV w kv K) (hnb : ∀ t l, Obj.cells cs tc (0, 0) ≠ R8 t l) (ht : tc ≠ 213) :
    Calls Salg.prog 94 #[.pointer (some ⟨c, 0, none⟩), A8 (ad 1), kv] w fun e w' => ∃ r v', e = .returned r ∧ Kept [c] w w' ∧ w'.heap[c]? = some (.cells (cs.setIfInBounds 2 v') tc (0, 0)) ∧ MarkV w' v' (some K) := by
  rcases hmo with rfl | rfl
  · exact warmSlot_none c tc cs mv kv K w hc h2 hm hk hnb ht
  · refine (warmSlot_some c tc cs mv kv K w hc h2 hm hk).mono ?_
    rintro e w' ⟨r, rfl, K1⟩
    exact ⟨r, mv, rfl, K1.mono (by simp), by rw [set_same h2]; exact K1.row hc (by simp), MarkV.kept hm K1⟩
theorem store_all (c tc : Nat) (cs : Array Value) (va nv bv cu sl nv2 bv2 cu2 nv3 bv3 kv vv : Value) (N K V : Nat) (so : Option (Nat × Nat)) (w : World) (hc : w.heap[c]? = some (.cells cs tc (0, 0))) (h0 : cs[0]? = some va) (hv : AcsV w va (l3 nv bv cu sl nv2 bv2 cu2 nv3 bv3)) (hs : SlotV w sl so) (hso : so = none ∨ ∃ V, so = some (K, V)) (hk : NumV w kv K) (hx : NumV w vv V) (hn : NumV w nv N) (hN : N ≠ 0) (hb : bv.oneCell' = true) (hcu : cu.oneCell' = true) (hnb : ∀ t l, Obj.cells cs tc (0, 0) ≠ R8 t l) (ht : tc ≠ 128) (ht2 : tc ≠ 133) :
    Calls Salg.prog 246 #[.pointer (some ⟨c, 0, none⟩), A8 (ad 1), kv, vv] w fun e w' => ∃ r v' s', e = .returned r ∧ Kept [c] w w' ∧ w'.heap[c]? = some (.cells (cs.setIfInBounds 0 v') tc (0, 0)) ∧ AcsV w' v' (l3 nv bv cu s' nv2 bv2 cu2 nv3 bv3) ∧ SlotV w' s' (slotNew K V) := by
  unfold slotNew
  rcases hso with rfl | ⟨V0, rfl⟩
  · by_cases h : V = 0
    · rw [if_pos h]; exact store_none_zero c tc cs va nv bv cu sl nv2 bv2 cu2 nv3 bv3 kv vv N K V 0 w hc h0 hv hs hk hx h hn hN hb hcu hnb ht ht2
    · rw [if_neg h]; exact store_none_new c tc cs va nv bv cu sl nv2 bv2 cu2 nv3 bv3 kv vv N K V 0 w hc h0 hv hs hk hx h hn hN hb hcu hnb ht ht2
  · by_cases h : V = 0
    · rw [if_pos h]; exact store_some_zero c tc cs va nv bv cu sl nv2 bv2 cu2 nv3 bv3 kv vv N K V V0 w hc h0 hv hs hk hx h hn hN hb hcu hnb ht ht2
    · rw [if_neg h]; exact store_some_new c tc cs va nv bv cu sl nv2 bv2 cu2 nv3 bv3 kv vv N K V V0 w hc h0 hv hs hk hx h hn hN hb hcu hnb ht ht2
/-- The rule of SSTORE at the top frame, on the run's state. -/
theorem sstore_C (c fb q K N m G : Nat) (fs0 : Array Value) (cv fr mc : Value) (ns : List Nat) (la : List (List Nat)) (mo : Option Nat) (so : Option (Nat × Nat)) (R : Nat) (ds1 ds2 : List Nat) (w : World) (hC : ChainV w c fr la mo so R ds1 ds2) (hF : FrameQ w fb q fs0 m G (ns ++ [N, K]) mc) (hf : FrC fs0 q cv) (hl : ns.length ≤ 30) (hK : KeyOk K mo so) :
    Calls Salg.prog 243 #[.pointer (some ⟨c, 0, none⟩), .pointer (some ⟨fb, q, none⟩)] w fun e w' => ∃ c p m, e = .returned (.tuple #[c, p, m]) ∧ NumV w' c (sCost mo.isSome (slotVal so) N) ∧ NumV w' p (sPlus (slotVal so) N) ∧ NumV w' m 0 ∧ Kept [] w w' := by
  obtain ⟨vz, wz, mv, rv, lim, gv0, pr, tv, c1, c2, c3, c4, c5, c6⟩ := hC
  obtain ⟨fs, pv, gv, sv, xs, h1, h0, h2, h3, h4, h5, h6, h7, h8, h9, ha⟩ := hF
  obtain ⟨nv, bv, cu, sl, nv2, bv2, cu2, nv3, bv3, w1, w2, w3, w4, w5, w6, w7, w8, w9, wa, wb, wc, wd⟩ := c2
  have hxl : xs.length = ns.length + 2 := by have := h9.1; simpa using this
  have e1 : ∃ u, xs[xs.length - 1]? = some u := ⟨_, List.getElem?_eq_getElem (by omega)⟩
  have e2 : ∃ u, xs[xs.length - 2]? = some u := ⟨_, List.getElem?_eq_getElem (by omega)⟩
  obtain ⟨ku, e1⟩ := e1
  obtain ⟨nu, e2⟩ := e2
  have hku : NumV w ku K := h9.2 _ _ _ e1 (by rw [hxl, List.getElem?_append_right (by omega)]; simp [show ns.length + 2 - 1 - ns.length = 1 by omega])
  have hnu : NumV w nu N := h9.2 _ _ _ e2 (by rw [hxl, List.getElem?_append_right (by omega)]; simp [show ns.length + 2 - 2 - ns.length = 0 by omega])
  have hse : fs.extract (q + 12) (q + 12 + 20) = ((ad 1).map n8).toArray := by
    rw [ext_same h0 fun k k1 k2 => h2 k (by omega) (by omega) (by omega) (by omega)]
    exact hf.self
  refine sstore_gen c fb q _ fs sv ku nu xs mo.isSome (slotVal so) _ _ w c1 (by kernel_rfl) h1 h7 h8 (by omega) (by omega) e1 e2 hse (by have := hf.size; omega) ?_ ?_ ?_
  · intro w' K1
    exact isWarmSlot_all c 119 _ mv ku K mo w' (K1.row c1 (by simp)) (by kernel_rfl) (MarkV.kept w3 K1) hK.1 (hku.kept K1)
  · intro w' K1
    exact load_all c 119 _ vz nv bv cu sl nv2 bv2 cu2 nv3 bv3 ku K so w' (K1.row c1 (by simp)) (by kernel_rfl) (w1.kept K1) (SlotV.kept w5 K1) hK.2 (hku.kept K1)
  · intro w' vv K1 hvv
    exact sstore_all vv nu (slotVal so) N mo.isSome w' hvv (hnu.kept K1)
end Go.Proofs.YgcsalGreat

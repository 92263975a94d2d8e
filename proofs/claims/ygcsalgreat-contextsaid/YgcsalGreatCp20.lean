/-
  The walks of (*yp.Frame).wait and of (*yp.State).enterCall at CALL.
-/
import Derived.Test.YgcsalGreatCp19
import Derived.Test.YgcsalGreatCp17
import Derived.Test.YgcsalGreatSl31
set_option linter.unusedSimpArgs false
set_option linter.unusedVariables false
namespace Go.Own
theorem hard_one {w : World} {b tc : Nat} {cs : Array Value} (hr : w.heap[b]? = some (.cells cs tc (0, 0))) (ht : tc = 119 ∨ tc = 142) (ho : ∀ t l, Obj.cells cs tc (0, 0) ≠ R8 t l) : Hard [b] w := fun x hx => by
  simp only [List.mem_singleton] at hx
  subst hx
  exact ⟨cs, tc, hr, ht, ho⟩
theorem StatW.keptC {w w' : World} {E : CEnv} {ds1 ds2 : List Nat} {b tc : Nat} {cs : Array Value} (h : StatW w E ds1 ds2) (k : Kept [b] w w') (hr : w.heap[b]? = some (.cells cs tc (0, 0))) (ho : ∀ t l, Obj.cells cs tc (0, 0) ≠ R8 t l) (ht : tc = 119 ∨ tc = 142) : StatW w' E ds1 ds2 := h.keptN k (hard_one hr ht ho)
/-- Where a callee's output goes. -/
def outAt (N O : Nat) : Nat := if N = 0 then 0 else O
/-- A value lies off these blocks. -/
def LieOff (S : List Nat) (v : Value) : Prop := (∃ p c, v = .slice p 0 c) ∨ ∀ b, v.ownBlock = some b → b ∉ S
theorem NumS.offV {S : List Nat} {w : World} {v : Value} {n : Nat} (h : NumS S w v n) : LieOff S v := by
  obtain ⟨ds, h1, _, _, h4⟩ := h
  rcases h4 with h4 | h4
  · obtain ⟨p, c, e, _⟩ := h1
    subst h4
    exact .inl ⟨p, c, e⟩
  · exact .inr h4
theorem NumV.offS {S : List Nat} {w : World} {v : Value} {n : Nat} (h : NumV w v n) (ho : LieOff S v) : NumS S w v n := by
  obtain ⟨ds, h1, h2, h3⟩ := h
  refine ⟨ds, h1, h2, h3, ?_⟩
  rcases ho with ⟨p, c, e⟩ | ho
  · obtain ⟨p', c', e', _⟩ := h1
    rw [e] at e'
    injection e' with _ e' _
    exact .inl (List.eq_nil_of_length_eq_zero e'.symm)
  · exact .inr ho
/-- A chain and what it holds. -/
structure ChS (w : World) (c : Nat) (E : CEnv) (fr rt : Value) (la : List (List Nat)) (ds1 ds2 : List Nat) : Prop where
  ch : ChX w c E fr rt la
  st : StatW w E ds1 ds2
theorem ChS.kept {w w' : World} {c : Nat} {E : CEnv} {fr rt : Value} {la : List (List Nat)} {ds1 ds2 : List Nat} (h : ChS w c E fr rt la ds1 ds2) (k : Kept [] w w') : ChS w' c E fr rt la ds1 ds2 := ⟨h.ch.kept k, h.st.kept k⟩
theorem ChS.frame {w w' : World} {c fb : Nat} {E : CEnv} {fr rt : Value} {la : List (List Nat)} {ds1 ds2 : List Nat} {fs : Array Value} (h : ChS w c E fr rt la ds1 ds2) (k : Kept [fb] w w') (hr : w.heap[fb]? = some (.cells fs 142 (0, 0))) (ho : ∀ t l, Obj.cells fs 142 (0, 0) ≠ R8 t l) : ChS w' c E fr rt la ds1 ds2 := ⟨h.ch.frame k hr, h.st.keptC k hr ho (.inr rfl)⟩
end Go.Own
namespace Go.Proofs.YgcsalGreat
open Go.RowKit Go.Own
set_option maxHeartbeats 4000000 in
set_option maxRecDepth 100000 in
theorem wait_some (fb q t O N : Nat) (fs : Array Value) (sv ov nv : Value) (xs : List Value) (w : World) (hr : w.heap[fb]? = some (.cells fs 142 (0, 0))) (h8 : fs[q + 8]? = some sv) (hs : RowV w 89 sv xs) (ho : NumV w ov O) (hn : NumV w nv N) (hN0 : N ≠ 0) (hl : xs.length ≤ 40) (hlt : t ≤ xs.length) :
    Calls Salg.prog 221 #[.pointer (some ⟨fb, q, none⟩), .int .i64 t, ov, nv] w fun e w' => ∃ (r : Value) (p : Option Addr) (r6 r7 : Value), e = .returned r ∧ Kept [fb] w w' ∧ w'.heap[fb]? = some (.cells (((fs.setIfInBounds (q + 8) (.slice p (xs.length - t) (xs.length - t))).setIfInBounds (q + 6) r6).setIfInBounds (q + 7) r7) 142 (0, 0)) ∧ RowV w' 89 (.slice p (xs.length - t) (xs.length - t)) (xs.take (xs.length - t)) ∧ NumV w' r6 O ∧ NumV w' r7 N := by
  have M := Mem.start w []
  have HO := hid ho
  have HN := hid hn
  obtain ⟨p, cap, rfl⟩ : ∃ p cap, sv = .slice p xs.length cap := by
    rcases hs with ⟨rfl, rfl⟩ | ⟨g, cap, cur, rfl, _⟩
    · exact ⟨none, 0, rfl⟩
    · exact ⟨_, _, rfl⟩
  have z8 : q + 8 < fs.size := (Array.getElem?_eq_some_iff.1 h8).1
  have HNB1 := hid (not_bytes_at (tc := 142) h8)
  have HCT := hid (hs.cut (xs.length - t) (by omega))
  have hcap := HCT.out.1
  have HT : Hid (RowV w 89 (.slice p (xs.length - t) (xs.length - t)) (xs.take (xs.length - t))) := HCT.out.2.row
  clear ho hs HCT hn
  obtain ⟨n, hnn⟩ : ∃ n, n = xs.length := ⟨_, rfl⟩
  rw [← hnn] at HT hcap hl hlt h8 ⊢
  clear hnn
  have HNB2 : Hid (∀ t' l, Obj.cells (fs.setIfInBounds (q + 8) (Value.slice p (n - t) (n - t))) 142 (0, 0) ≠ R8 t' l) := not_bytes_at (i := q + 8) (Array.getElem?_setIfInBounds_self_of_lt z8)
  have HNB3 : Hid (∀ r6 t' l, Obj.cells ((fs.setIfInBounds (q + 8) (Value.slice p (n - t) (n - t))).setIfInBounds (q + 6) r6) 142 (0, 0) ≠ R8 t' l) := fun r6 => not_bytes_at (i := q + 8) ((Array.getElem?_setIfInBounds_ne (by omega)).trans (Array.getElem?_setIfInBounds_self_of_lt z8))
  have HNB4 : Hid (∀ r6 r7 t' l, Obj.cells (((fs.setIfInBounds (q + 8) (Value.slice p (n - t) (n - t))).setIfInBounds (q + 6) r6).setIfInBounds (q + 7) r7) 142 (0, 0) ≠ R8 t' l) := fun r6 r7 => not_bytes_at (i := q + 8) ((Array.getElem?_setIfInBounds_ne (by omega)).trans ((Array.getElem?_setIfInBounds_ne (by omega)).trans (Array.getElem?_setIfInBounds_self_of_lt z8)))
  have HROW := hid hr
  have HKA : Hid (Kept [fb] w w) := Kept.refl _ _
  go_enter Salg.func221, Salg.ntmps221
  go_wp2_with (first
    | ((with_reducible apply W_loadCell); rfl; exact M.kept.row hr (by simp); exact h8; exact Salg.underlying140; rfl; simp only [Act.put, List.setIfInBounds_toArray, List.set_cons_zero, List.set_cons_succ])
    | ((with_reducible apply W_slice3 (n := n - t)); rfl; rfl; rfl; (first | rfl | omega); (first | rfl | omega); exact Salg.underlying140; exact ⟨1, size89⟩; exact hcap; simp only [Act.put, List.setIfInBounds_toArray, List.set_cons_zero, List.set_cons_succ])
    | ((with_reducible apply W_stV (b := fb) (o := q + 8) (v := (Value.slice p (n - t) (n - t)))); rfl; rfl; exact rfl; exact (M.kept.row HROW.out (by simp)); exact size140; (first | omega | (simp; omega)); intro w1x K hr4; have HRO := hid (M.kept.row HROW.out (by simp)); replace HO := hid ((HO.out.kept M.kept).keptC K HRO.out HNB1.out); replace HN := hid ((HN.out.kept M.kept).keptC K HRO.out HNB1.out); replace HT := hid ((HT.out.kept M.kept).keptC K HRO.out (by decide)); replace HKA := hid ((HKA.out.trans (M.kept.mono (by simp))).trans K); replace HROW := hid hr4; replace M := Mem.start w1x []; clear K hr4 HRO))
  refine (norm_num ov O _ (HO.out.kept M.kept)).mono ?_
  rintro e w2 ⟨r6, rfl, xH6, K⟩
  have H6 := hid xH6
  replace M := M.call K
  clear K xH6
  go_wp2_with ((with_reducible apply W_stV (b := fb) (o := q + 6) (v := r6)); rfl; rfl; exact H6.out.one; exact (M.kept.row HROW.out (by simp)); exact size89; (first | omega | (simp; omega)); intro w2x K hr4; have HRO := hid (M.kept.row HROW.out (by simp)); replace H6 := hid (H6.out.keptC K HRO.out HNB2.out); replace HN := hid ((HN.out.kept M.kept).keptC K HRO.out HNB2.out); replace HT := hid ((HT.out.kept M.kept).keptC K HRO.out (by decide)); replace HKA := hid ((HKA.out.trans (M.kept.mono (by simp))).trans K); replace HROW := hid hr4; replace M := Mem.start w2x []; clear K hr4 HRO)
  refine (norm_num nv N _ (HN.out.kept M.kept)).mono ?_
  rintro e w3 ⟨r7, rfl, xH7, K⟩
  have H7 := hid xH7
  replace H6 := hid (H6.out.kept K)
  replace M := M.call K
  clear K xH7
  have HNB3 := hid (HNB3.out r6)
  have HNB4 := hid (HNB4.out r6 r7)
  go_wp2_with ((with_reducible apply W_stV (b := fb) (o := q + 7) (v := r7)); rfl; rfl; exact H7.out.one; exact (M.kept.row HROW.out (by simp)); exact size89; (first | omega | (simp; omega)); intro w3x K hr4; have HRO := hid (M.kept.row HROW.out (by simp)); replace HN := hid ((HN.out.kept M.kept).keptC K HRO.out HNB3.out); replace H7 := hid (H7.out.keptC K HRO.out HNB3.out); replace H6 := hid (H6.out.keptC K HRO.out HNB3.out); replace HT := hid ((HT.out.kept M.kept).keptC K HRO.out (by decide)); replace HKA := hid ((HKA.out.trans (M.kept.mono (by simp))).trans K); replace HROW := hid hr4; replace M := Mem.start w3x []; clear K hr4 HRO)
  refine (isZero_lit nv N false (by simp; exact hN0) _ (HN.out.kept M.kept)).mono ?_
  rintro e w4 ⟨rfl, K⟩
  replace H7 := hid (H7.out.kept K)
  replace H6 := hid (H6.out.kept K)
  replace M := M.call K
  clear K
  go_wp2_with fail
  replace HROW := hid (M.kept.row HROW.out (by simp))
  replace HT := hid (HT.out.kept M.kept)
  replace HKA := hid (HKA.out.trans (M.kept.mono (by simp)))
  go_end0
  exact ⟨_, p, r6, r7, rfl, HKA.out, HROW.out, HT.out, H6.out, H7.out⟩
theorem wait_any (fb q t O N : Nat) (fs : Array Value) (sv ov nv : Value) (xs : List Value) (w : World) (hr : w.heap[fb]? = some (.cells fs 142 (0, 0))) (h8 : fs[q + 8]? = some sv) (hs : RowV w 89 sv xs) (ho : NumV w ov O) (hn : NumV w nv N) (hl : xs.length ≤ 40) (hlt : t ≤ xs.length) :
    Calls Salg.prog 221 #[.pointer (some ⟨fb, q, none⟩), .int .i64 t, ov, nv] w fun e w' => ∃ (r : Value) (p : Option Addr) (r6 r7 : Value), e = .returned r ∧ Kept [fb] w w' ∧ w'.heap[fb]? = some (.cells (((fs.setIfInBounds (q + 8) (.slice p (xs.length - t) (xs.length - t))).setIfInBounds (q + 6) r6).setIfInBounds (q + 7) r7) 142 (0, 0)) ∧ RowV w' 89 (.slice p (xs.length - t) (xs.length - t)) (xs.take (xs.length - t)) ∧ NumV w' r6 (outAt N O) ∧ NumV w' r7 N := by
  by_cases h0 : N = 0
  · subst h0
    refine (wait_zero fb q t O fs sv ov nv xs w hr h8 hs ho hn hl hlt).mono ?_
    rintro e w' ⟨r, p, r6, r7, rfl, K, h1, h2, h3⟩
    refine ⟨r, p, nilS, r7, rfl, K, ?_, h2, ?_, h3⟩
    · have hE : ∀ (a : Array Value) (x y z : Value), (((a.setIfInBounds (q + 6) x).setIfInBounds (q + 7) y).setIfInBounds (q + 6) z) = (a.setIfInBounds (q + 6) z).setIfInBounds (q + 7) y := by
        intro a x y z
        rw [Array.setIfInBounds_comm _ _ (by omega), Array.setIfInBounds_setIfInBounds]
      rw [h1, hE]
    · exact nil_num _
  · rw [outAt, if_neg h0]
    exact wait_some fb q t O N fs sv ov nv xs w hr h8 hs ho hn h0 hl hlt

set_option maxHeartbeats 4000000 in
set_option maxRecDepth 100000 in
theorem enterCall_X (S : List Nat) (rr c fb cap m G A ON OO IN IA : Nat) (E : CEnv) (fs0 : Array Value) (cv mv rt : Value) (ns mem : List Nat) (la : List (List Nat)) (ds1 ds2 : List Nat) (w : World) (hC : ChS w c E (.slice (some ⟨fb, 0, none⟩) 1 cap) rt la ds1 ds2) (hF : FrameM S rr w fb 0 fs0 m G (ns ++ [ON, OO, IN, IA, 0, 2, A]) mv) (hf : FrD fs0 0 cv) (hse : fs0.extract 12 (12 + 20) = ((ad 1).map n8).toArray) (hmem : NatV w mv mem) (hml : mem.length ≤ 1000) (hIN : IN ≤ 1000) (hl : ns.length ≤ 20) (hm : m ≤ 1000) (hl0 : 0 < (adWith la (ad 2)).length) (hl1 : la.length ≤ 15) (hl2 : (adWith la (ad 2)).length ≤ 20) (hsz : fs0.size = cap * 60) (hcap : cap ≤ maxLen) (hc1 : 1 ≤ cap) (hG : G < 1000000) :
    Calls Salg.prog 194 #[.pointer (some ⟨c, 0, none⟩), .pointer (some ⟨fb, 0, none⟩), .int .u8 241] w fun e w' => ∃ (r : Value) (fb' cap' : Nat) (cur : Array Value) (pv gv sv r6 r7 cw sg vn iu a0 a1 a2 a3 : Value) (xs : List Value), e = .returned r ∧ ChS w' c E (.slice (some ⟨fb', 0, none⟩) 2 cap') nilS (adWith la (ad 2)) ds1 ds2 ∧ w'.heap[fb']? = some (.cells cur 142 (0, 0)) ∧ (fb' = fb ∨ w.heap.size ≤ fb') ∧ (∀ k, k < 60 → k ≠ 3 → k ≠ 4 → k ≠ 6 → k ≠ 7 → k ≠ 8 → k ≠ 9 → cur[k]? = fs0[k]?) ∧ cur[3]? = some pv ∧ cur[4]? = some gv ∧ cur[6]? = some r6 ∧ cur[7]? = some r7 ∧ cur[8]? = some sv ∧ cur[9]? = some mv ∧ LieOff S pv ∧ PartsV w' pv gv sv xs m (G - min A (G - G / 64)) ns ∧ NumV w' r6 (outAt ON OO) ∧ NumV w' r7 ON ∧ (∀ k, k < 60 → cur[60 + k]? = (frX sg vn cw iu (wrow4 a0 a1 a2 a3))[k]?) ∧ NumV w' sg (min A (G - G / 64)) ∧ NumV w' vn 0 ∧ NatV w' cw ds2 ∧ NatV w' iu (cutB mem IA IN) ∧ cur.size = cap' * 60 ∧ cap' ≤ maxLen ∧ 2 ≤ cap' ∧ WorldS w' a0 a1 a2 a3 (adWith la (ad 2)) none none 0 ds1 ds2 ∧ (∀ v ds, NatV w v ds → NatV w' v ds) ∧ Kept [c, fb] w w' := by
  have M := Mem.start w []
  obtain ⟨fs, pv, gv, sv, xs, hr, h0, h2, h3, h4s, h5, h6s, h7, h8, h9, ha, _⟩ := hF
  have HOFF := hid h4s.offV
  have h4 := h4s.num
  have h6 := h6s.num
  clear h4s h6s
  have hxl : xs.length = ns.length + 7 := by have := h9.1; simpa using this
  obtain ⟨u0, hu0⟩ : ∃ u, xs[xs.length - 1 - 0]? = some u := ⟨_, List.getElem?_eq_getElem (by omega)⟩
  obtain ⟨u1, hu1⟩ : ∃ u, xs[xs.length - 1 - 1]? = some u := ⟨_, List.getElem?_eq_getElem (by omega)⟩
  obtain ⟨u2, hu2⟩ : ∃ u, xs[xs.length - 1 - 2]? = some u := ⟨_, List.getElem?_eq_getElem (by omega)⟩
  obtain ⟨u3, hu3⟩ : ∃ u, xs[xs.length - 1 - 3]? = some u := ⟨_, List.getElem?_eq_getElem (by omega)⟩
  obtain ⟨u4, hu4⟩ : ∃ u, xs[xs.length - 1 - 4]? = some u := ⟨_, List.getElem?_eq_getElem (by omega)⟩
  obtain ⟨u5, hu5⟩ : ∃ u, xs[xs.length - 1 - 5]? = some u := ⟨_, List.getElem?_eq_getElem (by omega)⟩
  obtain ⟨u6, hu6⟩ : ∃ u, xs[xs.length - 1 - 6]? = some u := ⟨_, List.getElem?_eq_getElem (by omega)⟩
  obtain ⟨p, cp, rfl⟩ : ∃ p cap, sv = .slice p xs.length cap := by
    rcases h8 with ⟨rfl, rfl⟩ | ⟨g, cap, cur, rfl, _⟩
    · exact ⟨none, 0, rfl⟩
    · exact ⟨_, _, rfl⟩
  have HNB := hid (not_bytes_at (tc := 142) h7)
  have HP : Hid (PartsV w pv gv (.slice p xs.length cp) xs m G (ns ++ [ON, OO, IN, IA, 0, 2, A])) := ⟨h4, h6, h8, h9⟩
  have N0 : Hid (NumV w u0 A) := h9.2 _ _ _ hu0 (by rw [hxl, List.getElem?_append_right (by omega)]; simp [show ns.length + 7 - 1 - 0 - ns.length = 6 by omega])
  have N1 : Hid (NumV w u1 2) := h9.2 _ _ _ hu1 (by rw [hxl, List.getElem?_append_right (by omega)]; simp [show ns.length + 7 - 1 - 1 - ns.length = 5 by omega])
  have N2 : Hid (NumV w u2 0) := h9.2 _ _ _ hu2 (by rw [hxl, List.getElem?_append_right (by omega)]; simp [show ns.length + 7 - 1 - 2 - ns.length = 4 by omega])
  have N3 : Hid (NumV w u3 IA) := h9.2 _ _ _ hu3 (by rw [hxl, List.getElem?_append_right (by omega)]; simp [show ns.length + 7 - 1 - 3 - ns.length = 3 by omega])
  have N4 : Hid (NumV w u4 IN) := h9.2 _ _ _ hu4 (by rw [hxl, List.getElem?_append_right (by omega)]; simp [show ns.length + 7 - 1 - 4 - ns.length = 2 by omega])
  have N5 : Hid (NumV w u5 OO) := h9.2 _ _ _ hu5 (by rw [hxl, List.getElem?_append_right (by omega)]; simp [show ns.length + 7 - 1 - 5 - ns.length = 1 by omega])
  have N6 : Hid (NumV w u6 ON) := h9.2 _ _ _ hu6 (by rw [hxl, List.getElem?_append_right (by omega)]; simp [show ns.length + 7 - 1 - 6 - ns.length = 0 by omega])
  have hz : fs.size = cap * 60 := h0.trans hsz
  have g2 := (h2 2 (by decide) (by decide) (by decide) (by decide)).trans hf.f2
  have HSE : Hid (fs.extract 12 (12 + 20) = ((ad 1).map n8).toArray) := by
    have e := ext_same (a := 12) (n := 20) h0 fun k k1 k2 => h2 k (by omega) (by omega) (by omega) (by omega)
    exact e.trans hse
  have HX2 := hid h2
  have HC := hid hC
  have HM := hid hmem
  have hfl := lt_of_row hr
  have hfc : fb ∉ [c] := by
    obtain ⟨wz, y, _⟩ := hC.ch
    exact row_ne y hr (by intro h; injection h with _ h _; exact absurd h (by decide))
  have hcl : c < w.heap.size := by
    obtain ⟨_, y, _⟩ := hC.ch
    exact lt_of_row y
  have z4 : 4 < fs.size := by omega
  clear h2 h4 h6 h8 h9 hC hf hse h0 hmem
  go_enter Salg.func194, Salg.ntmps194
  go_wp2_with fail
  refine (arity_call _).mono ?_
  rintro e w1 ⟨rfl, hw⟩
  replace hw := hw.symm
  subst hw
  go_wp2_with fail
  refine (arg_q fb 0 fs _ u0 xs 0 _ (M.kept.row hr (by simp)) h7 (HP.out.s.kept M.kept) (by omega) hu0 (by omega)).mono ?_
  rintro e w2 ⟨rfl, K⟩
  replace M := M.call K
  clear K
  go_wp2_with fail
  refine (arg_q fb 0 fs _ u1 xs 1 _ (M.kept.row hr (by simp)) h7 (HP.out.s.kept M.kept) (by omega) hu1 (by omega)).mono ?_
  rintro e w3 ⟨rfl, K⟩
  replace M := M.call K
  clear K
  go_wp2_with fail
  refine (addrOf_two u1 _ (N1.out.kept M.kept)).mono ?_
  rintro e w4 ⟨rfl, K⟩
  replace M := M.call K
  clear K
  go_wp2_with (first
    | ((with_reducible apply L_allocA M); exact zero45; clear M; intro t10 w5 ht10 M; simp only [Act.put, List.setIfInBounds_toArray, List.set_cons_zero, List.set_cons_succ])
    | ((with_reducible apply W_storeK (b := t10) (vs := ((ad 2).map n8).toArray)); rfl; rfl; exact M.r0; exact size45; rfl; exact oneL rfl; intro w6 K1 hr3; replace M := Mem.callPut (L1 := []) M (Or.inr ht10) K1 hr3; clear K1 hr3; simp only [List.nil_append] at M))
  refine S_region (by kernel_rfl) ?_
  refine E_stage 0 4 [0, 1, 2, 3] (by kernel_rfl) M.drew ?_
  clear M
  simp only [List.filterMap_cons, List.filterMap_nil, List.getElem?_cons_zero, List.getElem?_cons_succ]
  ((with_reducible apply E_run); rfl; rfl; (intro w M; go_simp; (try go_ints); (try simp only [↓IntWalk.iteOmega]); (try with_reducible rfl)); simp only [Act.put, List.setIfInBounds_toArray, List.set_cons_zero, List.set_cons_succ])
  ((with_reducible apply E_run); rfl; rfl; (intro w M; go_simp; (try go_ints); (try simp only [↓IntWalk.iteOmega]); (try with_reducible rfl)); simp only [Act.put, List.setIfInBounds_toArray, List.set_cons_zero, List.set_cons_succ])
  ((with_reducible apply E_run); rfl; rfl; (intro w M; go_simp; (try go_ints); (try simp only [↓IntWalk.iteOmega]); (try with_reducible rfl)); simp only [Act.put, List.setIfInBounds_toArray, List.set_cons_zero, List.set_cons_succ])
  ((with_reducible apply E_run); rfl; rfl; (intro w M; exact run_loadAll (by (first | with_reducible exact M.r0 | with_reducible exact M.r1 | with_reducible exact M.r2 | with_reducible exact M.r3 | with_reducible exact M.r4 | with_reducible exact M.r5 | with_reducible exact M.r6 | assumption | exact M.kept.row (by assumption) (by simp))) rfl Salg.underlying45 rfl (by first | with_reducible exact size45 | (rw [size45]; simp [ad]))); simp only [Act.put, List.setIfInBounds_toArray, List.set_cons_zero, List.set_cons_succ])
  refine E_nil ?_
  intro w7 K M
  clear K
  refine S_seg 4 5 (by kernel_rfl) (by decide) ?_
  simp only [List.take_succ_cons, List.take_zero, List.drop_zero, List.drop_succ_cons, Nat.sub_zero, Nat.reduceSub]
  go_wp2_with fail
  refine (warm_X c 2 E _ rt la _ (HC.out.kept M.kept).ch (by decide) (by omega)).mono ?_
  rintro e w8 ⟨r8, rfl, x8, K1⟩
  obtain ⟨wz, c1, _⟩ := (HC.out.kept M.kept).ch
  have HO := hid (chx_nb E wz (.slice (some ⟨fb, 0, none⟩) 1 cap) rt)
  replace hr := K1.row (M.kept.row hr (by simp)) hfc
  have h10c : t10 ∉ [c] := by simp; omega
  have H10 := hid (K1.row M.r0 h10c)
  replace HP := hid ((HP.out.kept M.kept).keptC K1 c1 HO.out (by decide))
  replace HM := hid ((HM.out.kept M.kept).keptC K1 c1 HO.out)
  replace N0 := hid ((N0.out.kept M.kept).keptC K1 c1 HO.out)
  replace N2 := hid ((N2.out.kept M.kept).keptC K1 c1 HO.out)
  replace N3 := hid ((N3.out.kept M.kept).keptC K1 c1 HO.out)
  replace N4 := hid ((N4.out.kept M.kept).keptC K1 c1 HO.out)
  replace N5 := hid ((N5.out.kept M.kept).keptC K1 c1 HO.out)
  replace N6 := hid ((N6.out.kept M.kept).keptC K1 c1 HO.out)
  have HD : Hid (∀ v ds, NatV w v ds → NatV w8 v ds) := fun v ds h => (h.kept M.kept).keptC K1 c1 HO.out
  have HK : Hid (Kept [c, fb] w w8) := (M.kept.mono (by simp)).trans (K1.mono (by simp))
  replace HC : Hid (ChS w8 c E (.slice (some ⟨fb, 0, none⟩) 1 cap) rt (adWith la (ad 2)) ds1 ds2) := ⟨x8, (HC.out.kept M.kept).st.keptC K1 c1 HO.out (.inl rfl)⟩
  have h10f : t10 ≠ fb := by omega
  have h10l := lt_of_row H10.out
  clear x8 K1 M c1 HO
  have M : Mem w8 [] [(t10, .cells ((ad 2).map n8).toArray 45 (0, 0))] w8 := (Mem.start w8 []).add H10.out (by simp)
  go_wp2_with fail
  refine S_done ?_
  go_wp2_with fail
  refine (arg_q fb 0 fs _ u2 xs 2 _ (M.kept.row hr (by simp)) h7 (HP.out.s.kept M.kept) (by omega) hu2 (by omega)).mono ?_
  rintro e w8b ⟨rfl, K⟩
  replace M := M.call K
  clear K
  go_wp2_with fail
  refine S_region (by kernel_rfl) ?_
  refine E_float 0 13 [0, 1, 2, 3, 4, 6, 7, 8, 9, 10, 5, 11] 12 13 _ (by kernel_rfl) ⟨⟨_, _, _, _, _, rfl, zero142, rfl⟩⟩ (by simp) M.drew ?_
  clear M
  simp only [List.filterMap_cons, List.filterMap_nil, List.getElem?_cons_zero, List.getElem?_cons_succ]
  ((with_reducible apply E_run); rfl; rfl; (intro w M; go_simp; (try go_ints); (try simp only [↓IntWalk.iteOmega]); (try with_reducible rfl)); simp only [Act.put, List.setIfInBounds_toArray, List.set_cons_zero, List.set_cons_succ])
  ((with_reducible apply E_run); rfl; rfl; (intro w M; go_simp; (try go_ints); (try simp only [↓IntWalk.iteOmega]); (try with_reducible rfl)); simp only [Act.put, List.setIfInBounds_toArray, List.set_cons_zero, List.set_cons_succ])
  ((with_reducible apply E_run); rfl; rfl; (intro w M; go_simp; (try go_ints); (try simp only [↓IntWalk.iteOmega]); (try with_reducible rfl)); simp only [Act.put, List.setIfInBounds_toArray, List.set_cons_zero, List.set_cons_succ])
  ((with_reducible apply E_run); rfl; rfl; (intro w M; exact run_loadCell (M.kept.row hr (by simp)) rfl g2 Salg.underlying4 rfl); simp only [Act.put, List.setIfInBounds_toArray, List.set_cons_zero, List.set_cons_succ])
  ((with_reducible apply E_run); rfl; rfl; (intro w M; go_simp; (try go_ints); (try simp only [↓IntWalk.iteOmega]); (try with_reducible rfl)); simp only [Act.put, List.setIfInBounds_toArray, List.set_cons_zero, List.set_cons_succ])
  ((with_reducible apply E_run); rfl; rfl; (intro w M; exact run_loadAll (by (first | with_reducible exact M.r0 | with_reducible exact M.r1 | with_reducible exact M.r2 | with_reducible exact M.r3 | with_reducible exact M.r4 | with_reducible exact M.r5 | with_reducible exact M.r6 | assumption | exact M.kept.row (by assumption) (by simp))) rfl Salg.underlying45 rfl (by first | with_reducible exact size45 | (rw [size45]; simp [ad]))); simp only [Act.put, List.setIfInBounds_toArray, List.set_cons_zero, List.set_cons_succ])
  ((with_reducible apply E_run); rfl; rfl; (intro w M; go_simp; (try go_ints); (try simp only [↓IntWalk.iteOmega]); (try with_reducible rfl)); simp only [Act.put, List.setIfInBounds_toArray, List.set_cons_zero, List.set_cons_succ])
  ((with_reducible apply E_run); rfl; rfl; (intro w M; go_simp; (try go_ints); (try simp only [↓IntWalk.iteOmega]); (try with_reducible rfl)); simp only [Act.put, List.setIfInBounds_toArray, List.set_cons_zero, List.set_cons_succ])
  ((with_reducible apply E_run); rfl; rfl; (intro w M; go_simp; (try go_ints); (try simp only [↓IntWalk.iteOmega]); (try with_reducible rfl)); simp only [Act.put, List.setIfInBounds_toArray, List.set_cons_zero, List.set_cons_succ])
  ((with_reducible apply E_run (v := .agg ((ad 1).map n8).toArray)); rfl; rfl; (intro w M; exact run_loadX (n := 20) (M.kept.row hr (by simp)) rfl Salg.underlying45 rfl size45 (by omega) HSE.out); simp only [Act.put, List.setIfInBounds_toArray, List.set_cons_zero, List.set_cons_succ])
  refine E_call rfl Salg.func158 (by kernel_rfl) (by kernel_rfl) (args := [u2]) rfl ?_
  intro w1 K M
  clear K
  refine (norm_num u2 0 _ (N2.out.kept M.kept)).mono ?_
  rintro e w9 ⟨vn, rfl, xHVN, K⟩
  have HVN := hid xHVN
  clear xHVN
  replace M := M.call K
  refine ⟨_, rfl, K.mono (by simp), M, ?_⟩
  clear K
  simp only [Act.put, List.setIfInBounds_toArray, List.set_cons_zero, List.set_cons_succ]
  ((with_reducible apply E_run (v := .agg (frK 2 nilS vn nilS nilS (ad 2) (ad 1)).toArray)); rfl; rfl; (intro w M; obtain ⟨p0, q0, s0, e0⟩ := HVN.out.slice; subst e0; kernel_rfl); simp only [Act.put, List.setIfInBounds_toArray, List.set_cons_zero, List.set_cons_succ])
  refine E_nil ?_
  intro w10 K1 M
  replace HVN := hid (HVN.out.kept K1)
  clear K1
  intro t13 w11 K1 ht13 M
  replace HVN := hid (HVN.out.kept K1)
  clear K1
  simp only [Act.put, List.setIfInBounds_toArray, List.set_cons_zero, List.set_cons_succ]
  refine S_seg 13 14 (by kernel_rfl) (by decide) ?_
  simp only [List.take_succ_cons, List.take_zero, List.drop_zero, List.drop_succ_cons, Nat.sub_zero, Nat.reduceSub]
  have HVN1 := hid HVN.out.one
  have HB13 : t13 ∈ ([] : List Nat) ∨ w8.heap.size ≤ t13 := Or.inr ht13
  go_wp2_with ((with_reducible apply W_storeK (b := t13) (vs := (frK 2 nilS vn nilS nilS (ad 2) (ad 1)).toArray)); rfl; rfl; exact M.r0; exact size142; rfl; exact frK_one rfl HVN1.out rfl rfl; intro w12 K1 hr3; replace HVN := hid (HVN.out.keptC K1 M.r0 (not_bytes_at (i := 3) (p := none) (n := 0) (m := 0) (by kernel_rfl))); replace M := Mem.callPut (L1 := []) M HB13 K1 hr3; clear K1 hr3; simp only [List.nil_append] at M)
  refine S_done ?_
  go_wp2_with ((with_reducible apply W_loadCell); rfl; exact M.kept.row hr (by simp); exact h5; exact Salg.underlying89; rfl; simp only [Act.put, List.setIfInBounds_toArray, List.set_cons_zero, List.set_cons_succ])
  refine (sentGas_any gv u0 G A _ (HP.out.g.kept M.kept) (N0.out.kept M.kept) hG).mono ?_
  rintro e w13 ⟨sg, rfl, xHSG, K⟩
  have HSG := hid xHSG
  replace HVN := hid (HVN.out.kept K)
  replace M := M.call K
  clear K xHSG
  go_wp2_with ((with_reducible apply W_loadCell); rfl; exact M.kept.row hr (by simp); exact h5; exact Salg.underlying89; rfl; simp only [Act.put, List.setIfInBounds_toArray, List.set_cons_zero, List.set_cons_succ])
  refine (less_any gv sg G _ _ (HP.out.g.kept M.kept) HSG.out (by omega) (by omega)).mono ?_
  rintro e w14 ⟨lg, rfl, xHLG, K⟩
  have HLG := hid xHLG
  replace HSG := hid (HSG.out.kept K)
  replace HVN := hid (HVN.out.kept K)
  replace M := M.call K
  clear K xHLG
  have hrow := M.kept.row hr (by simp)
  have h13f : t13 ≠ fb := by have := lt_of_row hr; omega
  have h13w : w.heap.size ≤ t13 := Nat.le_trans HK.out.size ht13
  have hsg1 := HSG.out.one
  go_wp2_with (first
    | ((with_reducible apply W_stV (b := fb) (o := 4) (v := lg)); rfl; rfl; exact HLG.out.one; exact hrow; exact size89; exact z4; intro w15a K1 hr15)
    | ((with_reducible apply W_stV (b := t13) (o := 4) (v := sg)); rfl; rfl; exact hsg1; exact K1.row M.r0 (by simpa using h13f); exact size89; exact Nat.le_of_ble_eq_true (by kernel_rfl); intro w15 K2 hr16; rw [show ((frK 2 nilS vn nilS nilS (ad 2) (ad 1)).toArray).setIfInBounds 4 sg = (frK 2 sg vn nilS nilS (ad 2) (ad 1)).toArray from by kernel_rfl] at hr16))
  have NB4 := hid (frK_nb 2 nilS vn nilS nilS (ad 2) (ad 1))
  have h13a := K1.row M.r0 (by simpa using h13f)
  have HNB2 := hid (not_bytes_at (tc := 142) (cs := fs.setIfInBounds 4 lg) (i := 8) ((Array.getElem?_setIfInBounds_ne (by decide)).trans h7))
  replace HP := hid (((HP.out.kept M.kept).keptC K1 hrow HNB.out (by decide)).keptC K2 h13a NB4.out (by decide))
  replace HM := hid (((HM.out.kept M.kept).keptC K1 hrow HNB.out).keptC K2 h13a NB4.out)
  replace N2 := hid (((N2.out.kept M.kept).keptC K1 hrow HNB.out).keptC K2 h13a NB4.out)
  replace N3 := hid (((N3.out.kept M.kept).keptC K1 hrow HNB.out).keptC K2 h13a NB4.out)
  replace N4 := hid (((N4.out.kept M.kept).keptC K1 hrow HNB.out).keptC K2 h13a NB4.out)
  replace N5 := hid (((N5.out.kept M.kept).keptC K1 hrow HNB.out).keptC K2 h13a NB4.out)
  replace N6 := hid (((N6.out.kept M.kept).keptC K1 hrow HNB.out).keptC K2 h13a NB4.out)
  replace HSG := hid ((HSG.out.keptC K1 hrow HNB.out).keptC K2 h13a NB4.out)
  replace HVN := hid ((HVN.out.keptC K1 hrow HNB.out).keptC K2 h13a NB4.out)
  replace HLG := hid ((HLG.out.keptC K1 hrow HNB.out).keptC K2 h13a NB4.out)
  replace HC := hid (((HC.out.kept M.kept).frame K1 hrow HNB.out).frame K2 h13a NB4.out)
  have HD2 : Hid (∀ v ds, NatV w v ds → NatV w15 v ds) := fun v ds h => (((HD.out v ds h).kept M.kept).keptC K1 hrow HNB.out).keptC K2 h13a NB4.out
  have HK1 : Hid (Kept [t13, c, fb] w w15) := (HK.out.mono (by intro k hk; simp at hk ⊢; omega)).trans ((M.kept.mono (by simp)).trans ((K1.mono (by simp)).trans (K2.mono (by simp))))
  replace H10 := hid (K2.row (K1.row M.r1 (by simpa using h10f)) (by simpa using fun h => M.ne01 h.symm))
  have H13 := hid hr16
  have HB13 : t13 ∈ [t13] ∨ w15.heap.size ≤ t13 := Or.inl (by simp)
  have hne : t13 ≠ t10 := M.ne01
  have NB13 := hid (frK_nb 2 sg vn nilS nilS (ad 2) (ad 1))
  have NB13i := fun iu => hid (frK_nb 2 sg vn nilS iu (ad 2) (ad 1))
  have hf13 : fb ∉ [t13] := by simp; omega
  replace hr := K2.row hr15 hf13
  clear K1 K2 M hrow HD h13a NB4 HK hr15 hr16
  have M : Mem w15 [t13] [(t13, .cells (frK 2 sg vn nilS nilS (ad 2) (ad 1)).toArray 142 (0, 0)), (t10, .cells ((ad 2).map n8).toArray 45 (0, 0))] w15 := ((Mem.start w15 [t13]).add H10.out (by simp)).add H13.out (by simpa using hne)
  have h7' : (fs.setIfInBounds 4 lg)[0 + 8]? = some (.slice p xs.length cp) := (Array.getElem?_setIfInBounds_ne (by decide)).trans h7
  have ha' : (fs.setIfInBounds 4 lg)[0 + 9]? = some mv := (Array.getElem?_setIfInBounds_ne (by decide)).trans ha
  have HSE2 : Hid ((fs.setIfInBounds 4 lg).extract 12 (12 + 20) = ((ad 1).map n8).toArray) := by
    have e := ext_same (fs := fs.setIfInBounds 4 lg) (fs0 := fs) (a := 12) (n := 20) (by simp) fun k k1 k2 => Array.getElem?_setIfInBounds_ne (by omega)
    exact e.trans HSE.out
  refine (isZero_lit u2 0 true (by decide) _ (N2.out.keptC M.kept H13.out NB13.out)).mono ?_
  rintro e w16 ⟨rfl, K⟩
  replace M := M.call K
  clear K
  go_wp2_with fail
  have HCS := hid (HC.out.frame M.kept H13.out NB13.out)
  have HB0 := hid HCS.out.st.bv
  have HN2 := hid (N2.out.keptC M.kept H13.out NB13.out)
  obtain ⟨wz, c1, _⟩ := HCS.out.ch
  have MM := M
  replace M := M.anew []
  refine S_region (by kernel_rfl) ?_
  replace HB0 := hid (HB0.out.kept (Kept.refl [] _).drew)
  replace HN2 := hid (HN2.out.kept (Kept.refl [] _).drew)
  refine E_stage 0 21 [0, 1, 2, 3, 4, 5, 6, 7, 8, 9, 10, 11, 12, 13, 14, 17, 15, 16, 18, 19, 20] (by kernel_rfl) M.drew ?_
  clear M
  simp only [List.filterMap_cons, List.filterMap_nil, List.getElem?_cons_zero, List.getElem?_cons_succ]
  ((with_reducible apply E_run); rfl; rfl; (intro w M; go_simp; (try go_ints); (try simp only [↓IntWalk.iteOmega]); (try with_reducible rfl)); simp only [Act.put, List.setIfInBounds_toArray, List.set_cons_zero, List.set_cons_succ])
  ((with_reducible apply E_run); rfl; rfl; (intro w M; go_simp; (try go_ints); (try simp only [↓IntWalk.iteOmega]); (try with_reducible rfl)); simp only [Act.put, List.setIfInBounds_toArray, List.set_cons_zero, List.set_cons_succ])
  ((with_reducible apply E_run); rfl; rfl; (intro w M; go_simp; (try go_ints); (try simp only [↓IntWalk.iteOmega]); (try with_reducible rfl)); simp only [Act.put, List.setIfInBounds_toArray, List.set_cons_zero, List.set_cons_succ])
  ((with_reducible apply E_run); rfl; rfl; (intro w M; exact run_loadCell (M.kept.row c1 (by simp)) rfl (show (chM E.vz wz nilS nilS (.slice (some ⟨fb, 0, none⟩) 1 cap) rt 1 0 E.lim E.gv nilS E.pr E.tv)[9]? = some (.slice (some ⟨fb, 0, none⟩) 1 cap) by kernel_rfl) Salg.underlying115 rfl); simp only [Act.put, List.setIfInBounds_toArray, List.set_cons_zero, List.set_cons_succ])
  ((with_reducible apply E_run); rfl; rfl; (intro w M; go_simp; (try go_ints); (try simp only [↓IntWalk.iteOmega]); (try with_reducible rfl)); simp only [Act.put, List.setIfInBounds_toArray, List.set_cons_zero, List.set_cons_succ])
  ((with_reducible apply E_run); rfl; rfl; (intro w M; go_simp; (try go_ints); (try simp only [↓IntWalk.iteOmega]); (try with_reducible rfl)); simp only [Act.put, List.setIfInBounds_toArray, List.set_cons_zero, List.set_cons_succ])
  ((with_reducible apply E_run); rfl; rfl; (intro w M; go_simp; (try go_ints); (try simp only [↓IntWalk.iteOmega]); (try with_reducible rfl)); simp only [Act.put, List.setIfInBounds_toArray, List.set_cons_zero, List.set_cons_succ])
  ((with_reducible apply E_run); rfl; rfl; (intro w M; go_simp; (try go_ints); (try simp only [↓IntWalk.iteOmega]); (try with_reducible rfl)); simp only [Act.put, List.setIfInBounds_toArray, List.set_cons_zero, List.set_cons_succ])
  ((with_reducible apply E_run); rfl; rfl; (intro w M; go_simp; (try go_ints); (try simp only [↓IntWalk.iteOmega]); (try with_reducible rfl)); simp only [Act.put, List.setIfInBounds_toArray, List.set_cons_zero, List.set_cons_succ])
  ((with_reducible apply E_run); rfl; rfl; (intro w M; go_simp; (try go_ints); (try simp only [↓IntWalk.iteOmega]); (try with_reducible rfl)); simp only [Act.put, List.setIfInBounds_toArray, List.set_cons_zero, List.set_cons_succ])
  ((with_reducible apply E_run); rfl; rfl; (intro w M; go_simp; (try go_ints); (try simp only [↓IntWalk.iteOmega]); (try with_reducible rfl)); simp only [Act.put, List.setIfInBounds_toArray, List.set_cons_zero, List.set_cons_succ])
  ((with_reducible apply E_run); rfl; rfl; (intro w M; go_simp; (try go_ints); (try simp only [↓IntWalk.iteOmega]); (try with_reducible rfl)); simp only [Act.put, List.setIfInBounds_toArray, List.set_cons_zero, List.set_cons_succ])
  ((with_reducible apply E_run); rfl; rfl; (intro w M; go_simp; (try go_ints); (try simp only [↓IntWalk.iteOmega]); (try with_reducible rfl)); simp only [Act.put, List.setIfInBounds_toArray, List.set_cons_zero, List.set_cons_succ])
  ((with_reducible apply E_run); rfl; rfl; (intro w M; go_simp; (try go_ints); (try simp only [↓IntWalk.iteOmega]); (try with_reducible rfl)); simp only [Act.put, List.setIfInBounds_toArray, List.set_cons_zero, List.set_cons_succ])
  ((with_reducible apply E_run (v := .agg ((ad 1).map n8).toArray)); rfl; rfl; (intro w M; exact run_loadX (n := 20) (M.kept.row (MM.kept.row hr hf13) (by simp)) rfl Salg.underlying45 rfl size45 (by simp; omega) HSE2.out); simp only [Act.put, List.setIfInBounds_toArray, List.set_cons_zero, List.set_cons_succ])
  ((with_reducible apply E_run); rfl; rfl; (intro w M; go_simp; (try go_ints); (try simp only [↓IntWalk.iteOmega]); (try with_reducible rfl)); simp only [Act.put, List.setIfInBounds_toArray, List.set_cons_zero, List.set_cons_succ])
  refine E_call rfl Salg.func85 (by kernel_rfl) (by kernel_rfl) (args := [.pointer (some ⟨c, 0, none⟩), A8 (ad 1)]) rfl ?_
  intro w1 K M
  replace HB0 := hid (HB0.out.kept K)
  replace HN2 := hid (HN2.out.kept K)
  clear K
  refine (account_X1 c E _ rt _ ds1 ds2 _ (HCS.out.kept M.kept).ch (HCS.out.kept M.kept).st).mono ?_
  rintro e w17 ⟨rfl, K⟩
  replace HB0 := hid (HB0.out.kept K)
  replace HN2 := hid (HN2.out.kept K)
  replace M := M.call K
  refine ⟨_, rfl, trivial, M, ?_⟩
  clear K
  simp only [Act.put, List.setIfInBounds_toArray, List.set_cons_zero, List.set_cons_succ]
  ((with_reducible apply E_run (v := E.bv)); rfl; rfl; (intro w M; kernel_rfl); simp only [Act.put, List.setIfInBounds_toArray, List.set_cons_zero, List.set_cons_succ])
  refine E_call rfl Salg.func72 (by kernel_rfl) (by kernel_rfl) (args := [E.bv, u2]) rfl ?_
  intro w1 K M
  replace HB0 := hid (HB0.out.kept K)
  replace HN2 := hid (HN2.out.kept K)
  clear K
  refine (cmp_lit E.bv u2 0 0 0 (by decide) _ HB0.out HN2.out).mono ?_
  rintro e w18 ⟨rfl, K⟩
  replace HB0 := hid (HB0.out.kept K)
  replace HN2 := hid (HN2.out.kept K)
  replace M := M.call K
  refine ⟨_, rfl, trivial, M, ?_⟩
  clear K
  simp only [Act.put, List.setIfInBounds_toArray, List.set_cons_zero, List.set_cons_succ]
  ((with_reducible apply E_run); rfl; rfl; (intro w M; go_simp; (try go_ints); (try simp only [↓IntWalk.iteOmega]); (try with_reducible rfl)); simp only [Act.put, List.setIfInBounds_toArray, List.set_cons_zero, List.set_cons_succ])
  ((with_reducible apply E_run); rfl; rfl; (intro w M; go_simp; (try go_ints); (try simp only [↓IntWalk.iteOmega]); (try with_reducible rfl)); simp only [Act.put, List.setIfInBounds_toArray, List.set_cons_zero, List.set_cons_succ])
  refine E_nil ?_
  intro w19 K M
  clear K
  refine S_done ?_
  replace M := MM.call M.kept
  clear MM HB0 HN2 c1 HCS
  go_wp2_with fail
  refine (arg_q fb 0 (fs.setIfInBounds 4 lg) _ u3 xs 3 _ (M.kept.row hr hf13) h7' ((HP.out.keptC M.kept H13.out NB13.out (by decide)).s) (by omega) hu3 (by omega)).mono ?_
  rintro e w20 ⟨rfl, K⟩
  replace M := M.call K
  clear K
  go_wp2_with fail
  refine (arg_q fb 0 (fs.setIfInBounds 4 lg) _ u4 xs 4 _ (M.kept.row hr hf13) h7' ((HP.out.keptC M.kept H13.out NB13.out (by decide)).s) (by omega) hu4 (by omega)).mono ?_
  rintro e w21 ⟨rfl, K⟩
  replace M := M.call K
  clear K
  go_wp2_with fail
  refine (read_any fb 0 (fs.setIfInBounds 4 lg) mv u3 u4 mem IA IN _ (M.kept.row hr hf13) ha' (HM.out.keptC M.kept H13.out NB13.out) (N3.out.keptC M.kept H13.out NB13.out) (N4.out.keptC M.kept H13.out NB13.out) hIN hml).mono ?_
  rintro e w22 ⟨iu, rfl, x1, _, K⟩
  have HIU := hid x1
  have hiu1 := x1.one
  replace M := M.call K
  clear K x1
  go_wp2_with (first
    | ((with_reducible apply W_stV (b := t13) (o := 11) (v := iu)); rfl; rfl; exact hiu1; exact M.r0; exact size40; exact Nat.le_of_ble_eq_true (by kernel_rfl); intro wS K hr3; replace HIU := hid (HIU.out.keptC K M.r0 NB13.out); rw [show ((frK 2 sg vn nilS nilS (ad 2) (ad 1)).toArray).setIfInBounds 11 (iu) = (frK 2 sg vn nilS iu (ad 2) (ad 1)).toArray from by kernel_rfl] at hr3; replace M := Mem.callPut (L1 := []) M HB13 K hr3; clear K hr3; simp only [List.nil_append] at M)
    | ((with_reducible apply W_loadAll); rfl; exact M.r1; exact Salg.underlying45; rfl; exact size45; simp only [Act.put, List.setIfInBounds_toArray, List.set_cons_zero, List.set_cons_succ]))
  refine (nativeAt_two _).mono ?_
  rintro e w23 ⟨rfl, K⟩
  replace HIU := hid (HIU.out.kept K)
  replace M := M.call K
  clear K
  go_wp2_with (first
    | ((with_reducible apply W_stV (b := t13) (o := 1) (v := .int .u8 0)); rfl; rfl; exact rfl; exact M.r0; exact size5; exact Nat.le_of_ble_eq_true (by kernel_rfl); intro wS K hr3; replace HIU := hid (HIU.out.keptC K M.r0 (NB13i iu).out); rw [show ((frK 2 sg vn nilS iu (ad 2) (ad 1)).toArray).setIfInBounds 1 (.int .u8 0) = (frK 2 sg vn nilS iu (ad 2) (ad 1)).toArray from by kernel_rfl] at hr3; replace M := Mem.callPut (L1 := []) M HB13 K hr3; clear K hr3; simp only [List.nil_append] at M)
    | ((with_reducible apply W_loadCell); rfl; exact M.r0; exact (show (frK 2 sg vn nilS iu (ad 2) (ad 1)).toArray[1]? = some (.int .u8 0) by kernel_rfl); exact Salg.underlying5; rfl; simp only [Act.put, List.setIfInBounds_toArray, List.set_cons_zero, List.set_cons_succ]))
  have HCS := hid (HC.out.frame M.kept H13.out NB13.out)
  have HB0 := hid HCS.out.st.cu2
  have MM := M
  have L10 := hid M.r1
  replace M := M.anew []
  refine S_region (by kernel_rfl) ?_
  replace HB0 := hid (HB0.out.kept (Kept.refl [] _).drew)
  replace HIU := hid (HIU.out.kept (Kept.refl [] _).drew)
  refine E_stage 0 7 [0, 1, 2, 3, 4, 5, 6] (by kernel_rfl) M.drew ?_
  clear M
  simp only [List.filterMap_cons, List.filterMap_nil, List.getElem?_cons_zero, List.getElem?_cons_succ]
  ((with_reducible apply E_run); rfl; rfl; (intro w M; go_simp; (try go_ints); (try simp only [↓IntWalk.iteOmega]); (try with_reducible rfl)); simp only [Act.put, List.setIfInBounds_toArray, List.set_cons_zero, List.set_cons_succ])
  ((with_reducible apply E_run); rfl; rfl; (intro w M; go_simp; (try go_ints); (try simp only [↓IntWalk.iteOmega]); (try with_reducible rfl)); simp only [Act.put, List.setIfInBounds_toArray, List.set_cons_zero, List.set_cons_succ])
  ((with_reducible apply E_run); rfl; rfl; (intro w M; go_simp; (try go_ints); (try simp only [↓IntWalk.iteOmega]); (try with_reducible rfl)); simp only [Act.put, List.setIfInBounds_toArray, List.set_cons_zero, List.set_cons_succ])
  ((with_reducible apply E_run); rfl; rfl; (intro w M; exact run_loadAll M.r1 rfl Salg.underlying45 rfl size45); simp only [Act.put, List.setIfInBounds_toArray, List.set_cons_zero, List.set_cons_succ])
  refine E_call rfl Salg.func85 (by kernel_rfl) (by kernel_rfl) (args := [.pointer (some ⟨c, 0, none⟩), A8 (ad 2)]) rfl ?_
  intro w1 K M
  replace HB0 := hid (HB0.out.kept K)
  replace HIU := hid (HIU.out.kept K)
  clear K
  refine (account_X2 c E _ rt _ ds1 ds2 _ (HCS.out.kept M.kept).ch (HCS.out.kept M.kept).st).mono ?_
  rintro e w24 ⟨rfl, K⟩
  replace HB0 := hid (HB0.out.kept K)
  replace HIU := hid (HIU.out.kept K)
  replace M := M.call K
  refine ⟨_, rfl, trivial, M, ?_⟩
  clear K
  simp only [Act.put, List.setIfInBounds_toArray, List.set_cons_zero, List.set_cons_succ]
  ((with_reducible apply E_run (v := E.cu2)); rfl; rfl; (intro w M; kernel_rfl); simp only [Act.put, List.setIfInBounds_toArray, List.set_cons_zero, List.set_cons_succ])
  refine E_call rfl Salg.func96 (by kernel_rfl) (by kernel_rfl) (args := [E.cu2]) rfl ?_
  intro w1 K M
  replace HB0 := hid (HB0.out.kept K)
  replace HIU := hid (HIU.out.kept K)
  clear K
  refine (bytesOf_all E.cu2 ds2 _ HB0.out).mono ?_
  rintro e w25 ⟨cu2, rfl, xHCU, K⟩
  have HCU := hid xHCU
  clear xHCU
  replace HB0 := hid (HB0.out.kept K)
  replace HIU := hid (HIU.out.kept K)
  replace M := M.call K
  refine ⟨_, rfl, trivial, M, ?_⟩
  clear K
  simp only [Act.put, List.setIfInBounds_toArray, List.set_cons_zero, List.set_cons_succ]
  refine E_nil ?_
  intro w26 K M
  replace HCU := hid (HCU.out.kept K)
  replace HIU := hid (HIU.out.kept K)
  clear K
  replace M := MM.call M.kept
  clear MM HB0 L10 HCS
  have hcu1 := HCU.out.one
  refine S_seg 7 9 (by kernel_rfl) (by decide) ?_
  simp only [List.take_succ_cons, List.take_zero, List.drop_zero, List.drop_succ_cons, Nat.sub_zero, Nat.reduceSub]
  go_wp2_with ((with_reducible apply W_stV (b := t13) (o := 10) (v := cu2)); rfl; rfl; exact hcu1; exact M.r0; exact size40; exact Nat.le_of_ble_eq_true (by kernel_rfl); intro wS K1 hr3; replace HCU := hid (HCU.out.keptC K1 M.r0 (NB13i iu).out); replace HIU := hid (HIU.out.keptC K1 M.r0 (NB13i iu).out); rw [show ((frK 2 sg vn nilS iu (ad 2) (ad 1)).toArray).setIfInBounds 10 cu2 = (frK 2 sg vn cu2 iu (ad 2) (ad 1)).toArray from by kernel_rfl] at hr3; replace M := Mem.callPut (L1 := []) M HB13 K1 hr3; clear K1 hr3; simp only [List.nil_append] at M)
  refine S_done ?_
  go_wp2_with fail
  refine (arg_q fb 0 (fs.setIfInBounds 4 lg) _ u5 xs 5 _ (M.kept.row hr hf13) h7' ((HP.out.keptC M.kept H13.out NB13.out (by decide)).s) (by omega) hu5 (by omega)).mono ?_
  rintro e w27 ⟨rfl, K⟩
  replace HCU := hid (HCU.out.kept K)
  replace HIU := hid (HIU.out.kept K)
  replace M := M.call K
  clear K
  go_wp2_with fail
  refine (arg_q fb 0 (fs.setIfInBounds 4 lg) _ u6 xs 6 _ (M.kept.row hr hf13) h7' ((HP.out.keptC M.kept H13.out NB13.out (by decide)).s) (by omega) hu6 (by omega)).mono ?_
  rintro e w28 ⟨rfl, K⟩
  replace HCU := hid (HCU.out.kept K)
  replace HIU := hid (HIU.out.kept K)
  replace M := M.call K
  clear K
  go_wp2_with fail
  have hrow := M.kept.row hr hf13
  refine (wait_any fb 0 7 OO ON (fs.setIfInBounds 4 lg) _ u5 u6 xs _ hrow h7' ((HP.out.keptC M.kept H13.out NB13.out (by decide)).s) (N5.out.keptC M.kept H13.out NB13.out) (N6.out.keptC M.kept H13.out NB13.out) (by omega) (by omega)).mono ?_
  rintro e w29 ⟨r29, p', r6, r7, rfl, K1, hr29, x1, x2, x3⟩
  have HSV := hid x1
  have HR6 := hid x2
  have HR7 := hid x3
  replace HP := hid ((HP.out.keptC M.kept H13.out NB13.out (by decide)).keptC K1 hrow HNB2.out (by decide))
  replace HLG := hid ((HLG.out.keptC M.kept H13.out NB13.out).keptC K1 hrow HNB2.out)
  replace HSG := hid ((HSG.out.keptC M.kept H13.out NB13.out).keptC K1 hrow HNB2.out)
  replace HVN := hid ((HVN.out.keptC M.kept H13.out NB13.out).keptC K1 hrow HNB2.out)
  replace HCU := hid (HCU.out.keptC K1 hrow HNB2.out)
  replace HIU := hid (HIU.out.keptC K1 hrow HNB2.out)
  replace HC := hid ((HC.out.frame M.kept H13.out NB13.out).frame K1 hrow HNB2.out)
  have HD3 : Hid (∀ v ds, NatV w v ds → NatV w29 v ds) := fun v ds h => ((HD2.out v ds h).keptC M.kept H13.out NB13.out).keptC K1 hrow HNB2.out
  have HK2 : Hid (Kept [t13, c, fb] w w29) := HK1.out.trans ((M.kept.mono (by intro k hk; simp at hk ⊢; omega)).trans (K1.mono (by simp)))
  have H13' := hid (K1.row M.r0 (by simpa using h13f))
  clear x1 x2 x3 K1 M HK1 HD2 hrow hr
  obtain ⟨fs2, hfs2⟩ : ∃ fs2, fs2 = (((fs.setIfInBounds 4 lg).setIfInBounds (0 + 8) (.slice p' (xs.length - 7) (xs.length - 7))).setIfInBounds (0 + 6) r6).setIfInBounds (0 + 7) r7 := ⟨_, rfl⟩
  rw [← hfs2] at hr29
  have HFS2 := hid hfs2
  clear hfs2
  have hs2 : fs2.size = cap * 60 := by rw [HFS2.out]; simp only [Array.size_setIfInBounds]; exact hz
  have HNB3 := hid (not_bytes_at (tc := 142) (cs := fs2) (i := 8) (p := p') (n := xs.length - 7) (m := xs.length - 7) (by rw [HFS2.out, Array.getElem?_setIfInBounds_ne (by decide), Array.getElem?_setIfInBounds_ne (by decide), Array.getElem?_setIfInBounds_self_of_lt (by simp; omega)]))
  go_wp2_with ((with_reducible apply W_loadAll); rfl; exact H13'.out; exact Salg.underlying142; rfl; exact (by kernel_rfl); simp only [Act.put, List.setIfInBounds_toArray, List.set_cons_zero, List.set_cons_succ])
  refine (enter_X c fb cap fs2 _ ds1 ds2 E rt sg vn cu2 iu _ HC.out.ch HC.out.st hl0 hl2 hr29 HNB3.out hs2 hcap hc1 hsg1 HVN.out hcu1 hiu1).mono ?_
  rintro e w30 ⟨r30, fb', cap', cur, a0, a1, a2, a3, rfl, y1, y2, y3, y4, y5, y6, y6b, y6c, y7, y9, yk⟩
  have Y1 := hid y1
  have Y2 := hid y2
  have Y4 := hid y4
  have Y5 := hid y5
  have Y7 := hid y7
  have Y9 := hid y9
  have YK := hid yk
  have YST : Hid (StatW w30 E ds1 ds2) := by
    obtain ⟨wz, c1, _⟩ := HC.out.ch
    refine HC.out.st.keptN yk ?_
    intro x hx
    simp only [List.mem_cons, List.mem_singleton, List.not_mem_nil, or_false] at hx
    rcases hx with rfl | rfl
    · exact ⟨_, 119, c1, .inl rfl, chx_nb _ _ _ _⟩
    · exact ⟨_, 142, hr29, .inr rfl, HNB3.out⟩
  have Y8 : Hid (∀ v n, NumV w29 v n → NumV w30 v n) := fun v n h => by
    obtain ⟨ds, h1, h2⟩ := h
    exact ⟨ds, y9 v ds h1, h2⟩
  have YA : Hid (∀ v xs, RowV w29 89 v xs → RowV w30 89 v xs) := fun v xs h => by
    obtain ⟨wz, c1, _⟩ := HC.out.ch
    refine RowV.keptN h yk ?_
    intro x hx
    simp only [List.mem_cons, List.mem_singleton, List.not_mem_nil, or_false] at hx
    rcases hx with rfl | rfl
    · exact ⟨_, 119, c1, .inl rfl, chx_nb _ _ _ _⟩
    · exact ⟨_, 142, hr29, .inr rfl, HNB3.out⟩
  clear y1 y2 y4 y5 y7 y9 yk HC
  go_wp2_with fail
  go_end0
  have e2 : ∀ k, k ≠ 4 → k ≠ 6 → k ≠ 7 → k ≠ 8 → fs2[k]? = fs[k]? := by
    intro k k4 k6 k7 k8
    rw [HFS2.out, Array.getElem?_setIfInBounds_ne (by omega), Array.getElem?_setIfInBounds_ne (by omega), Array.getElem?_setIfInBounds_ne (by omega), Array.getElem?_setIfInBounds_ne (by omega)]
  have hnl : xs.length - 7 = ns.length := by omega
  have HNS : NumsV w29 (xs.take (xs.length - 7)) ns := by
    have e1 := HP.out.n.take ns.length
    rw [List.take_left] at e1
    rw [hnl]
    exact e1
  have hK30 : Kept [c, fb] w w30 := by
    have := HK2.out
    refine ⟨YK.out.os.trans this.os, YK.out.tape.trans this.tape, YK.out.output.trans this.output, Nat.le_trans this.size YK.out.size, fun k hk hx => ?_⟩
    rw [YK.out.block k (Nat.lt_of_lt_of_le hk this.size) hx]
    refine this.block k hk ?_
    simp at hx ⊢
    refine ⟨?_, hx⟩
    rintro rfl
    have := h13w
    omega
  refine ⟨_, fb', cap', cur, pv, lg, .slice p' (xs.length - 7) (xs.length - 7), r6, r7, cu2, sg, vn, iu, a0, a1, a2, a3, xs.take (xs.length - 7), rfl, ⟨Y1.out, YST.out⟩, Y2.out, y3.imp id (fun h => Nat.le_trans HK2.out.size h), ?_, ?_, ?_, ?_, ?_, ?_, ?_, HOFF.out, ⟨Y8.out _ _ HP.out.p, Y8.out _ _ HLG.out, YA.out _ _ HSV.out, ⟨HNS.1, fun k v n i1 i2 => Y8.out _ _ (HNS.2 k v n i1 i2)⟩⟩, Y8.out _ _ HR6.out, Y8.out _ _ HR7.out, Y5.out, Y8.out _ _ HSG.out, Y8.out _ _ HVN.out, Y9.out _ _ HCU.out, Y9.out _ _ HIU.out, y6, y6b, y6c, Y7.out, fun v ds h => Y9.out v ds (HD3.out v ds h), hK30⟩
  · intro k k60 k3 k4 k6 k7 k8 k9
    rw [Y4.out k k60, e2 k k4 k6 k7 k8]
    exact HX2.out k (by omega) (by omega) (by omega) (by omega)
  · rw [Y4.out 3 (by decide), e2 3 (by decide) (by decide) (by decide) (by decide)]
    exact h3
  · rw [Y4.out 4 (by decide), HFS2.out, Array.getElem?_setIfInBounds_ne (by decide), Array.getElem?_setIfInBounds_ne (by decide), Array.getElem?_setIfInBounds_ne (by decide), Array.getElem?_setIfInBounds_self_of_lt z4]
  · rw [Y4.out 6 (by decide), HFS2.out, Array.getElem?_setIfInBounds_ne (by decide), Array.getElem?_setIfInBounds_self_of_lt (by simp; omega)]
  · rw [Y4.out 7 (by decide), HFS2.out, Array.getElem?_setIfInBounds_self_of_lt (by simp; omega)]
  · rw [Y4.out 8 (by decide), HFS2.out, Array.getElem?_setIfInBounds_ne (by decide), Array.getElem?_setIfInBounds_ne (by decide), Array.getElem?_setIfInBounds_self_of_lt (by simp; omega)]
  · rw [Y4.out 9 (by decide), e2 9 (by decide) (by decide) (by decide) (by decide)]
    exact ha

set_option maxHeartbeats 4000000 in
set_option maxRecDepth 100000 in
theorem enters_X (c fb q : Nat) (cs : Array Value) (w : World) (P2 : World → Prop) (hc : w.heap[c]? = some (.cells cs 119 (0, 0))) (hsz : 10 < cs.size)
    (hE : ∀ w', Kept [c] w w' → w'.heap[c]? = some (.cells (cs.setIfInBounds 10 nilS) 119 (0, 0)) → Calls Salg.prog 194 #[.pointer (some ⟨c, 0, none⟩), .pointer (some ⟨fb, q, none⟩), .int .u8 241] w' fun e w'' => ∃ r, e = .returned r ∧ P2 w'') :
    Calls Salg.prog 119 #[.pointer (some ⟨c, 0, none⟩), .pointer (some ⟨fb, q, none⟩), .int .u8 241] w fun e w' => ∃ r, e = .returned r ∧ P2 w' := by
  have HE := hid hE
  clear hE
  go_enter Salg.func119, Salg.ntmps119
  go_wp2_with ((with_reducible apply W_stV (b := c) (o := 10) (v := nilS)); rfl; rfl; rfl; exact hc; exact size40; exact hsz; intro w1 K1 hr1)
  have HK := hid K1
  clear K1
  refine (HE.out _ HK.out hr1).mono ?_
  rintro e w2 ⟨r, rfl, x⟩
  have HX := hid x
  clear x
  go_wp2_with fail
  go_end0
  exact ⟨_, rfl, HX.out⟩
end Go.Proofs.YgcsalGreat

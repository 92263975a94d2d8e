/-
  Runs with memory: how they begin, call and end.
-/
import Derived.Test.YgcsalGreatCp30
set_option linter.unusedSimpArgs false
set_option linter.unusedVariables false
namespace Go.Own
/-- The world at the end of Begin: what a run may read of it. -/
structure BegS (w0 wB : World) (c fb cap : Nat) (E : CEnv) (cur : Array Value) (dd ds1 ds2 : List Nat) (cv iu vv g0 a0 a1 a2 a3 : Value) : Prop where
  hard : Hard [c, fb] wB
  st : StatW wB E ds1 ds2
  code : NatV wB cv ds1
  inp : NatV wB iu dd
  cells : ∀ k, k < 60 → cur[k]? = (frO g0 vv cv iu nilS nilS (wrow4 a0 a1 a2 a3))[k]?
  one : ∀ u ∈ frO g0 vv cv iu nilS nilS (wrow4 a0 a1 a2 a3), u.oneCell' = true
  size : cur.size = cap * 60
  capM : cap ≤ maxLen
  cap1 : 1 ≤ cap
  saved : WorldS wB a0 a1 a2 a3 la5 none none 0 ds1 ds2
  k : Kept [c] w0 wB
  new : w0.heap.size ≤ fb
theorem BegS.since {w0 wB w : World} {c fb cap : Nat} {E : CEnv} {cur : Array Value} {dd ds1 ds2 : List Nat} {cv iu vv g0 a0 a1 a2 a3 : Value} (h : BegS w0 wB c fb cap E cur dd ds1 ds2 cv iu vv g0 a0 a1 a2 a3) (K : Kept [c, fb] wB w) : Kept [c] w0 w := by
  refine ⟨K.os.trans h.k.os, K.tape.trans h.k.tape, K.output.trans h.k.output, Nat.le_trans h.k.size K.size, fun i hi hx => ?_⟩
  have hn := h.new
  rw [K.block i (Nat.lt_of_lt_of_le hi h.k.size) (by simp at hx ⊢; exact ⟨hx, by omega⟩)]
  exact h.k.block i hi hx
theorem BegS.run {w0 wB : World} {c fb cap : Nat} {E : CEnv} {cur : Array Value} {dd ds1 ds2 : List Nat} {cv iu vv g0 a0 a1 a2 a3 : Value} (h : BegS w0 wB c fb cap E cur dd ds1 ds2 cv iu vv g0 a0 a1 a2 a3) (hl : ds1.length ≤ 1000) : RunE wB c fb 0 cv ds1 cur := by
  refine ⟨h.hard, h.code, ⟨?_, ?_, ?_, ?_⟩, hl⟩
  · exact h.cells 1 (by decide)
  · exact h.cells 2 (by decide)
  · exact h.cells 10 (by decide)
  · rw [h.size]
    have := h.cap1
    omega
theorem BegS.input {w0 wB : World} {c fb cap : Nat} {E : CEnv} {cur : Array Value} {dd ds1 ds2 : List Nat} {cv iu vv g0 a0 a1 a2 a3 : Value} (h : BegS w0 wB c fb cap E cur dd ds1 ds2 cv iu vv g0 a0 a1 a2 a3) : cur[0 + 11]? = some iu := h.cells 11 (by decide)
theorem BegS.self {w0 wB : World} {c fb cap : Nat} {E : CEnv} {cur : Array Value} {dd ds1 ds2 : List Nat} {cv iu vv g0 a0 a1 a2 a3 : Value} (h : BegS w0 wB c fb cap E cur dd ds1 ds2 cv iu vv g0 a0 a1 a2 a3) : cur.extract 12 (12 + 20) = ((ad 1).map n8).toArray := by
  have hz := h.size
  have h1 := h.cap1
  apply Array.ext (by simp [hz, ad]; omega)
  intro i i1 i2
  have hi : i < 20 := by simpa [ad] using i2
  have e := h.cells (12 + i) (by omega)
  have e2 : (frO g0 vv cv iu nilS nilS (wrow4 a0 a1 a2 a3))[12 + i]? = ((ad 1).map n8)[i]? := by
    have e3 : ((frO g0 vv cv iu nilS nilS (wrow4 a0 a1 a2 a3)).drop 12).take 20 = (ad 1).map n8 := by kernel_rfl
    rw [← e3, List.getElem?_take_of_lt hi, List.getElem?_drop]
  rw [e2] at e
  simp only [Array.getElem_extract, List.getElem_toArray]
  have i3 : 12 + i < cur.size := by omega
  have i4 : i < ((ad 1).map n8).length := by simpa using i2
  rw [Array.getElem?_eq_getElem i3, List.getElem?_eq_getElem i4] at e
  exact Option.some.inj e
end Go.Own
namespace Go.Proofs.YgcsalGreat
open Go.RowKit Go.Own
theorem play_return {w0 wB w : World} {c fbB cap0 : Nat} {E : CEnv} {cur : Array Value} {dd ds1 ds2 : List Nat} {cv iu vv g0 a0 a1 a2 a3 : Value} {rr fb cap lo hi m : Nat} {fs0 : Array Value} {ns mem : List Nat} {W : Nat} {rt : Value} {rd : List Nat} {la : List (List Nat)} (N O : Nat) (r6 r7 : Value) (B : BegS w0 wB c fbB cap0 E cur dd ds1 ds2 cv iu vv g0 a0 a1 a2 a3) (R : RunE wB c fbB 0 cv ds1 fs0) (h : StG (lo) hi wB c fbB E rr fb 0 1 cap fs0 (m) (ns ++ [N, O]) mem W rt rd la w) (hcells : ∀ k, k < 60 → k ≠ 3 → k ≠ 4 → k ≠ 8 → k ≠ 9 → fs0[k]? = (frO g0 vv cv iu r6 r7 (wrow4 a0 a1 a2 a3))[k]?) (h6 : r6.oneCell' = true) (h7 : r7.oneCell' = true) (hcap : 1 ≤ cap) (hm : ds1[m]? = some 243) (hns : ns.length ≤ 20) (hrr2 : rr ≤ (ns ++ [N, O]).length) (hO : O ≤ 300) (hN : N ≤ 300) (hm1 : m ≤ 900) (hlo : 60 ≤ lo) : Play c (fun w2 => EndZ w2 c 0 (cutB (growB mem (endN O N)) O N) ∧ Kept [c] w0 w2) 1 w := by
  obtain ⟨G, g1, g2, gh, hE⟩ := h
  have hgr := growC_le (W := W) (memC_small (U := endN O N) (by have := endN_le O N; omega))
  have hone : ∀ u ∈ frO g0 vv cv iu r6 r7 (wrow4 a0 a1 a2 a3), u.oneCell' = true := by
    have e : frO g0 vv cv iu r6 r7 (wrow4 a0 a1 a2 a3) = ((frO g0 vv cv iu nilS nilS (wrow4 a0 a1 a2 a3)).set 6 r6).set 7 r7 := by kernel_rfl
    rw [e]
    intro u hu
    rcases List.mem_or_eq_of_mem_set hu with hu | rfl
    · rcases List.mem_or_eq_of_mem_set hu with hu | rfl
      · exact B.one u hu
      · exact h6
    · exact h7
  refine Play.step (stepX_return1 N O ds1 ds2 r6 r7 g0 vv iu a0 a1 a2 a3 hE R.hard R.code R.fd hm R.len hns hm1 (by omega) (by omega) hrr2 hO hN hcells (by have := R.fd.size; omega) hone hcap B.st) ?_
  rintro w' ⟨e1, e2⟩
  exact play_endZ ⟨_, _, _, _, _, _, _, by omega, e1⟩ (B.since e2)
theorem play_bounds {w0 wB w : World} {c fbB cap0 : Nat} {E : CEnv} {cur : Array Value} {dd ds1 ds2 : List Nat} {cv iu vv g0 a0 a1 a2 a3 : Value} {rr fb cap lo hi m : Nat} {fs0 : Array Value} {ns mem : List Nat} {W : Nat} {rt : Value} {rd : List Nat} {la : List (List Nat)} (N O D : Nat) (r6 r7 : Value) (B : BegS w0 wB c fbB cap0 E cur dd ds1 ds2 cv iu vv g0 a0 a1 a2 a3) (R : RunE wB c fbB 0 cv ds1 fs0) (h : StG (lo) hi wB c fbB E rr fb 0 1 cap fs0 (m) (ns ++ [N, O, D]) mem W rt rd la w) (hcells : ∀ k, k < 60 → k ≠ 3 → k ≠ 4 → k ≠ 8 → k ≠ 9 → fs0[k]? = (frO g0 vv cv iu r6 r7 (wrow4 a0 a1 a2 a3))[k]?) (h6 : r6.oneCell' = true) (h7 : r7.oneCell' = true) (hcap : 1 ≤ cap) (hm : ds1[m]? = some 62) (hns : ns.length ≤ 20) (hO : O < 256 ^ 200) (hN : N ≤ 300) (hb : rd.length < O + N) (hrl : rd.length ≤ 1000) (hm1 : m ≤ 900) : Play c (fun w2 => EndZ w2 c 8 [] ∧ Kept [c] w0 w2) 1 w := by
  obtain ⟨G, g1, g2, gh, hE⟩ := h
  have hone : ∀ u ∈ frO g0 vv cv iu r6 r7 (wrow4 a0 a1 a2 a3), u.oneCell' = true := by
    have e : frO g0 vv cv iu r6 r7 (wrow4 a0 a1 a2 a3) = ((frO g0 vv cv iu nilS nilS (wrow4 a0 a1 a2 a3)).set 6 r6).set 7 r7 := by kernel_rfl
    rw [e]
    intro u hu
    rcases List.mem_or_eq_of_mem_set hu with hu | rfl
    · rcases List.mem_or_eq_of_mem_set hu with hu | rfl
      · exact B.one u hu
      · exact h6
    · exact h7
  refine Play.step (stepX_bounds1 N O D ds1 ds2 la5 r6 r7 g0 vv iu a0 a1 a2 a3 hE R.hard R.code R.fd hm R.len hns hm1 (by omega) (by omega) hO hN hb hrl hcells (by have := R.fd.size; omega) hone hcap B.st B.saved) ?_
  rintro w' ⟨e1, e2⟩
  exact play_endZ ⟨0, _, _, _, _, _, _, by omega, e1⟩ (B.since e2)
theorem play_call {w0 wB w : World} {c fbB cap0 : Nat} {E : CEnv} {cur : Array Value} {dd ds1 ds2 : List Nat} {cv iu vv g0 a0 a1 a2 a3 : Value} {rr fb cap lo hi m : Nat} {fs0 : Array Value} {mem : List Nat} {W n : Nat} {rt : Value} {rd : List Nat} {la : List (List Nat)} {Q : World → Prop} (ON OO IN IA : Nat) (B : BegS w0 wB c fbB cap0 E cur dd ds1 ds2 cv iu vv g0 a0 a1 a2 a3) (R : RunE wB c fbB 0 cv ds1 fs0) (h : StG (lo) hi wB c fbB E 0 fb 0 1 cap fs0 (m) [ON, OO, IN, IA, 0, 2] mem W rt rd la w) (hm : ds1[m]? = some 90) (hm' : ds1[m + 1]? = some 241) (hIO : IA ≤ 300) (hIN : IN ≤ 300) (hOO : OO ≤ 300) (hON : ON ≤ 300) (h00 : 0 < mem.length) (hn2 : ad 2 ∉ la) (hla : la.length ≤ 15) (hl0 : 0 < (adWith la (ad 2)).length) (hl2 : (adWith la (ad 2)).length ≤ 20) (hse : fs0.extract 12 (12 + 20) = ((ad 1).map n8).toArray) (hsz : fs0.size = cap * 60) (hcap : cap ≤ maxLen) (hc1 : 1 ≤ cap) (hm1 : m ≤ 800) (hlo : 100000 ≤ lo)
    (k : ∀ w' (fb' cap' : Nat) (cur' : Array Value) (mb G1 G2 : Nat) (pv gv sv r6 r7 cw sg vn iu' b0 b1 b2 b3 : Value), 1000 ≤ G1 → 50000 ≤ G2 → G1 + G2 ≤ 200000 → CallS wB c fbB E fb' cap' cur' fs0 mb (max W (wds (max (endN IA IN) (endN OO ON)))) (growB mem (max (endN IA IN) (endN OO ON))) pv gv sv r6 r7 cw sg vn iu' b0 b1 b2 b3 (m + 1) G1 G2 (outAt ON OO) ON (cutB (growB mem (max (endN IA IN) (endN OO ON))) IA IN) ds1 ds2 (adWith la (ad 2)) w' → Play c Q n w') : Play c Q (n + 2) w := by
  obtain ⟨G, g1, g2, gh, hE⟩ := h
  have hgr := growC_le (W := W) (memC_small (U := max (endN IA IN) (endN OO ON)) (by have := endN_le IA IN; have := endN_le OO ON; omega))
  refine Play.step (stepX_gas1 0 (ns := [ON, OO, IN, IA, 0, 2]) hE R.hard R.code R.fd hm R.len (by simp) (by omega) (by omega) (by omega) (Nat.le_refl _) (Nat.zero_le _)) fun w1 hE1 => ?_
  refine Play.step (stepX_call1 ON OO IN IA (G - 2) ds1 ds2 hE1 R.hard R.code R.fd hm' R.len (by omega) (by omega) (by omega) (Nat.zero_le _) hIO hIN hOO hON h00 B.st hn2 hla hl0 hl2 hse hsz hcap hc1 (by omega)) ?_
  rintro w' ⟨fb', cap', cur', mb, pv, gv, sv, r6, r7, cw, sg, vn, iu', b0, b1, b2, b3, hC⟩
  exact k w' fb' cap' cur' mb _ _ pv gv sv r6 r7 cw sg vn iu' b0 b1 b2 b3 (by omega) (by omega) (by omega) hC
end Go.Proofs.YgcsalGreat

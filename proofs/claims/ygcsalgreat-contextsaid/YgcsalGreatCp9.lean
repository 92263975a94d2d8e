/-
  The state of a run with memory.
-/
import Derived.Test.YgcsalGreatCp3
import Derived.Test.YgcsalGreatCp4
import Derived.Test.YgcsalGreatCp8
import Derived.Test.YgcsalGreatSl38
set_option linter.unusedSimpArgs false
set_option linter.unusedVariables false
namespace Go.Own
/-- Blocks of the chain and of frames. -/
def Hard (X : List Nat) (w : World) : Prop := ∀ x ∈ X, ∃ cs tc, w.heap[x]? = some (.cells cs tc (0, 0)) ∧ (tc = 119 ∨ tc = 142) ∧ ∀ t l, Obj.cells cs tc (0, 0) ≠ R8 t l
theorem Hard.row {X : List Nat} {w w' : World} (hX : Hard X w) (k : Kept X w w') {b t : Nat} {cs : Array Value} (hr : w.heap[b]? = some (.cells cs t (0, 0))) (ht : t ≠ 119 ∧ t ≠ 142) : w'.heap[b]? = some (.cells cs t (0, 0)) := by
  refine k.row hr fun hx => ?_
  obtain ⟨cs2, tc, h1, h2, _⟩ := hX b hx
  rw [hr] at h1
  cases h1
  rcases h2 with h2 | h2
  · exact ht.1 h2
  · exact ht.2 h2
theorem Hard.bytes {X : List Nat} {w w' : World} (hX : Hard X w) (k : Kept X w w') {b t : Nat} {l : List Nat} (hr : w.heap[b]? = some (R8 t l)) : w'.heap[b]? = some (R8 t l) := by
  refine k.row hr fun hx => ?_
  obtain ⟨cs2, tc, h1, _, h3⟩ := hX b hx
  rw [hr] at h1
  exact h3 t l (Option.some.inj h1).symm
theorem NatV.keptN {X : List Nat} {w w' : World} {v : Value} {ds : List Nat} (h : NatV w v ds) (k : Kept X w w') (hX : Hard X w) : NatV w' v ds := by
  obtain ⟨p, c, rfl, h1, h2, hd, hs⟩ := h
  refine ⟨p, c, rfl, h1, h2, ?_, hs⟩
  rcases hd with hd | ⟨b, t, cs, rfl, hr, hp⟩
  · exact .inl hd
  · exact .inr ⟨b, t, cs, rfl, hX.bytes k hr, hp⟩
theorem NumV.keptN {X : List Nat} {w w' : World} {v : Value} {n : Nat} (h : NumV w v n) (k : Kept X w w') (hX : Hard X w) : NumV w' v n := by
  obtain ⟨ds, h1, h2⟩ := h
  exact ⟨ds, h1.keptN k hX, h2⟩
theorem NumS.keptN {S X : List Nat} {w w' : World} {v : Value} {n : Nat} (h : NumS S w v n) (k : Kept X w w') (hX : Hard X w) : NumS S w' v n := by
  obtain ⟨ds, h1, h2, h3, h4⟩ := h
  exact ⟨ds, h1.keptN k hX, h2, h3, h4⟩
theorem own_keptN {X : List Nat} {w w' : World} {base e s n : Nat} {v : Value} {xs : List Value} (h : w.ownsRow base e s v n xs) (k : Kept X w w') (hX : Hard X w) (he : e ≠ 119 ∧ e ≠ 142) : w'.ownsRow base e s v n xs := by
  refine ⟨h.1, ?_⟩
  rcases h.2 with h1 | ⟨g, cap, cur, h1, h2, h3, h4⟩
  · exact .inl h1
  · exact .inr ⟨g, cap, cur, h1, h2, hX.row k h3 he, h4⟩
theorem AcsV.keptN {X : List Nat} {w w' : World} {v : Value} {l : List Ac} (h : AcsV w v l) (k : Kept X w w') (hX : Hard X w) : AcsV w' v l := ⟨own_keptN h.own k hX (by decide), h.ok, h.len⟩
theorem RowV.keptN {X : List Nat} {w w' : World} {v : Value} {xs : List Value} (h : RowV w 89 v xs) (k : Kept X w w') (hX : Hard X w) : RowV w' 89 v xs := by
  rcases h with h | ⟨g, cap, cur, h1, h2, h3⟩
  · exact .inl h
  · exact .inr ⟨g, cap, cur, h1, hX.row k h2 (by decide), h3⟩
/-- Values of a chain that do not change in a run. -/
structure CEnv where
  vz : Value
  lim : Value
  gv : Value
  pr : Value
  tv : Value
  nv : Value
  bv : Value
  cu : Value
  nv2 : Value
  bv2 : Value
  cu2 : Value
  nv3 : Value
  bv3 : Value
structure StatW (w : World) (E : CEnv) (ds1 ds2 : List Nat) : Prop where
  acs : AcsV w E.vz (l3 E.nv E.bv E.cu nilS E.nv2 E.bv2 E.cu2 E.nv3 E.bv3)
  nv : NumV w E.nv 1
  bv : NumV w E.bv 0
  cu : NatV w E.cu ds1
  nv2 : NumV w E.nv2 1
  bv2 : NumV w E.bv2 0
  cu2 : NatV w E.cu2 ds2
  nv3 : NumV w E.nv3 1
  bv3 : NumV w E.bv3 340282366920938463463374607431768211456
  lim : NumV w E.lim 200000
  pr : NumV w E.pr 0
  tv : NumV w E.tv 340282366920938463463374607431768211456
  gv : E.gv.oneCell' = true
theorem StatW.keptN {X : List Nat} {w w' : World} {E : CEnv} {ds1 ds2 : List Nat} (h : StatW w E ds1 ds2) (k : Kept X w w') (hX : Hard X w) : StatW w' E ds1 ds2 := ⟨h.acs.keptN k hX, h.nv.keptN k hX, h.bv.keptN k hX, h.cu.keptN k hX, h.nv2.keptN k hX, h.bv2.keptN k hX, h.cu2.keptN k hX, h.nv3.keptN k hX, h.bv3.keptN k hX, h.lim.keptN k hX, h.pr.keptN k hX, h.tv.keptN k hX, h.gv⟩
/-- The chain in a run: its frames' cell, what came back last, the warm accounts. -/
def ChX (w : World) (c : Nat) (E : CEnv) (fr rt : Value) (la : List (List Nat)) : Prop := ∃ wz, w.heap[c]? = some (.cells (chM E.vz wz nilS nilS fr rt 1 0 E.lim E.gv nilS E.pr E.tv) 119 (0, 0)) ∧ AdsV w wz la
theorem chx_nb (E : CEnv) (wz fr rt : Value) : ∀ t l, Obj.cells (chM E.vz wz nilS nilS fr rt 1 0 E.lim E.gv nilS E.pr E.tv) 119 (0, 0) ≠ R8 t l := chM_nb _ _ _ _ _ _ _ _ _ _ _ _ _
theorem ChX.kept {w w' : World} {c : Nat} {E : CEnv} {fr rt : Value} {la : List (List Nat)} (h : ChX w c E fr rt la) (k : Kept [] w w') : ChX w' c E fr rt la := by
  obtain ⟨wz, h1, h2⟩ := h
  exact ⟨wz, k.row h1 (by simp), h2.kept k⟩
theorem ChX.frame {w w' : World} {c fb : Nat} {E : CEnv} {fr rt : Value} {la : List (List Nat)} {fs : Array Value} (h : ChX w c E fr rt la) (k : Kept [fb] w w') (hr : w.heap[fb]? = some (.cells fs 142 (0, 0))) : ChX w' c E fr rt la := by
  obtain ⟨wz, h1, h2⟩ := h
  exact ⟨wz, k.row h1 (row_ne hr h1 (by rintro h; cases h)), h2.keptC k hr (by decide)⟩
theorem ChX.bytes {w w' : World} {c mb t : Nat} {E : CEnv} {fr rt : Value} {la : List (List Nat)} {l : List Nat} (h : ChX w c E fr rt la) (k : Kept [mb] w w') (hr : w.heap[mb]? = some (R8 t l)) (ht : t ≠ 119 ∧ t ≠ 45) : ChX w' c E fr rt la := by
  obtain ⟨wz, h1, h2⟩ := h
  have hr' : w.heap[mb]? = some (.cells (l.map n8).toArray t (0, 0)) := hr
  exact ⟨wz, k.row h1 (row_ne hr' h1 (fun e => chx_nb E wz fr rt t l e)), h2.keptC k hr' ht.2⟩
theorem ChX.row {w : World} {c : Nat} {E : CEnv} {fr rt : Value} {la : List (List Nat)} (h : ChX w c E fr rt la) : ∃ cs, w.heap[c]? = some (.cells cs 119 (0, 0)) ∧ cs[9]? = some fr ∧ cs[10]? = some rt ∧ cs[11]? = some (.int .u8 1) ∧ ∀ t l, Obj.cells cs 119 (0, 0) ≠ R8 t l := by
  obtain ⟨wz, h1, _⟩ := h
  exact ⟨_, h1, by kernel_rfl, by kernel_rfl, by kernel_rfl, chx_nb _ _ _ _⟩
/-- The memory's bytes. -/
def MemX (wB w : World) (S : List Nat) (mv : Value) (mem : List Nat) : Prop := (mem = [] ∧ mv = nilS) ∨ ∃ mb, mv = .slice (some ⟨mb, 0, none⟩) mem.length mem.length ∧ w.heap[mb]? = some (R8 5 mem) ∧ S = [mb] ∧ wB.heap.size ≤ mb ∧ 0 < mem.length
theorem MemX.kept {wB w w' : World} {S : List Nat} {mv : Value} {mem : List Nat} (h : MemX wB w S mv mem) (k : Kept [] w w') : MemX wB w' S mv mem := by
  rcases h with h | ⟨mb, h1, h2, h3⟩
  · exact .inl h
  · exact .inr ⟨mb, h1, k.row h2 (by simp), h3⟩
theorem MemX.keptC {wB w w' : World} {S : List Nat} {mv : Value} {mem : List Nat} {c tc : Nat} {cs : Array Value} (h : MemX wB w S mv mem) (k : Kept [c] w w') (hr : w.heap[c]? = some (.cells cs tc (0, 0))) (ho : ∀ t l, Obj.cells cs tc (0, 0) ≠ R8 t l) : MemX wB w' S mv mem := by
  rcases h with h | ⟨mb, h1, h2, h3⟩
  · exact .inl h
  · exact .inr ⟨mb, h1, k.row h2 (row_ne hr h2 (fun e => ho _ _ e.symm)), h3⟩
theorem MemX.cell {wB w : World} {S : List Nat} {mv : Value} {mem : List Nat} (h : MemX wB w S mv mem) : ∃ mp mc, mv = .slice mp mem.length mc := by
  rcases h with ⟨rfl, rfl⟩ | ⟨mb, rfl, _⟩
  · exact ⟨none, 0, rfl⟩
  · exact ⟨_, _, rfl⟩
theorem MemX.nat {wB w : World} {S : List Nat} {mv : Value} {mem : List Nat} (h : MemX wB w S mv mem) (hs : Small mem) (hl : mem.length ≤ 1000) : NatV w mv mem := by
  rcases h with ⟨rfl, rfl⟩ | ⟨mb, rfl, h2, _⟩
  · exact NatV.nil _
  · exact NatV.row h2 hs (by omega)
/-- What came back last lies off the memory. -/
def NatS (S : List Nat) (w : World) (v : Value) (ds : List Nat) : Prop := NatV w v ds ∧ (ds = [] ∨ ∀ b, v.ownBlock = some b → b ∉ S)
theorem NatS.kept {S : List Nat} {w w' : World} {v : Value} {ds : List Nat} (h : NatS S w v ds) (k : Kept [] w w') : NatS S w' v ds := ⟨h.1.kept k, h.2⟩
theorem NatS.keptC {S : List Nat} {w w' : World} {v : Value} {ds : List Nat} {c tc : Nat} {cs : Array Value} (h : NatS S w v ds) (k : Kept [c] w w') (hr : w.heap[c]? = some (.cells cs tc (0, 0))) (ho : ∀ t l, Obj.cells cs tc (0, 0) ≠ R8 t l) : NatS S w' v ds := ⟨h.1.keptC k hr ho, h.2⟩
theorem NatS.keptB {S : List Nat} {w w' : World} {v : Value} {ds : List Nat} {b : Nat} (h : NatS S w v ds) (k : Kept [b] w w') (hb : b ∈ S) : NatS S w' v ds := ⟨h.1.keptB k (h.2.imp id fun h e => h b e hb), h.2⟩
theorem NatV.off {w : World} {v : Value} {ds : List Nat} (h : NatV w v ds) {S : List Nat} (hS : ∀ b ∈ S, w.heap.size ≤ b) : NatS S w v ds := by
  refine ⟨h, ?_⟩
  by_cases h0 : ds = []
  · exact .inl h0
  · refine .inr fun b hb hm => ?_
    obtain ⟨p, c, rfl, _, _, hd, _⟩ := h
    rcases hd with hd | ⟨b', t, cs, rfl, hr, _⟩
    · exact h0 hd
    · simp only [Value.ownBlock, Option.some.injEq] at hb
      subst hb
      have := lt_of_row hr
      have := hS _ hm
      omega
theorem natS_nil (S : List Nat) (w : World) : NatS S w nilS [] := ⟨NatV.nil _, .inl rfl⟩
/-- The memory grown to a reach. -/
def growB (mem : List Nat) (U : Nat) : List Nat := mem ++ List.replicate (32 * wds U - mem.length) 0
theorem growB_small {mem : List Nat} (h : Small mem) (U : Nat) : Small (growB mem U) := by
  intro x hx
  rcases List.mem_append.1 hx with h1 | h1
  · exact h x h1
  · have := (List.mem_replicate.1 h1).2
    omega
theorem growB_same {mem : List Nat} {U W : Nat} (hL : mem.length = 32 * W) (h : wds U ≤ W) : growB mem U = mem := by
  unfold growB
  rw [show 32 * wds U - mem.length = 0 by omega]
  simp
theorem growB_length {mem : List Nat} {U W : Nat} (hL : mem.length = 32 * W) : (growB mem U).length = 32 * max W (wds U) := by
  simp [growB]
  omega
theorem growB_ge {mem : List Nat} {U W : Nat} (hL : mem.length = 32 * W) : U ≤ (growB mem U).length := by
  rw [growB_length hL]
  unfold wds
  omega
theorem growC_same {W U : Nat} (h : wds U ≤ W) : growC W U = 0 := by
  unfold growC
  have := memC_mono h
  omega
/-- The state between two steps. -/
structure StM (wB : World) (c fbB : Nat) (E : CEnv) (S : List Nat) (rr fb q n cap : Nat) (fs0 : Array Value) (m G : Nat) (ns : List Nat) (mv : Value) (mem : List Nat) (W : Nat) (rt : Value) (rd : List Nat) (la : List (List Nat)) (w : World) : Prop where
  k : Kept [c, fbB] wB w
  b : fb = fbB ∨ wB.heap.size ≤ fb
  ch : ChX w c E (.slice (some ⟨fb, 0, none⟩) n cap) rt la
  fr : FrameM S rr w fb q fs0 m G ns mv
  mm : MemX wB w S mv mem
  sm : Small mem
  len : mem.length = 32 * W
  wle : W ≤ 20
  rt : NatS S w rt rd
  sl : ∀ b ∈ S, b < w.heap.size
/-- The same, wherever the memory lies. -/
def StE (wB : World) (c fbB : Nat) (E : CEnv) (rr fb q n cap : Nat) (fs0 : Array Value) (m G : Nat) (ns : List Nat) (mem : List Nat) (W : Nat) (rt : Value) (rd : List Nat) (la : List (List Nat)) (w : World) : Prop := ∃ S mv, StM wB c fbB E S rr fb q n cap fs0 m G ns mv mem W rt rd la w
theorem FrameM.row {S : List Nat} {r : Nat} {w : World} {fb q : Nat} {fs0 : Array Value} {m G : Nat} {ns : List Nat} {mv : Value} (h : FrameM S r w fb q fs0 m G ns mv) : ∃ fs, w.heap[fb]? = some (.cells fs 142 (0, 0)) ∧ fs.size = fs0.size ∧ (∀ k, k ≠ q + 3 → k ≠ q + 4 → k ≠ q + 8 → k ≠ q + 9 → fs[k]? = fs0[k]?) ∧ fs[q + 9]? = some mv ∧ ∀ t l, Obj.cells fs 142 (0, 0) ≠ R8 t l := by
  obtain ⟨fs, pv, gv, sv, xs, h1, h0, h2, h3, h4, h5, h6, h7, h8, h9, ha, _⟩ := h
  obtain ⟨p, n, k, rfl⟩ := Go.Proofs.YgcsalGreat.rowV_slice h8
  exact ⟨fs, h1, h0, h2, ha, not_bytes_at (tc := 142) h7⟩
theorem Kept.since {wB w w' : World} {c fbB fb : Nat} (h : Kept [c, fbB] wB w) (k : Kept [fb] w w') (hf : fb = fbB ∨ wB.heap.size ≤ fb) : Kept [c, fbB] wB w' := by
  refine ⟨k.os.trans h.os, k.tape.trans h.tape, k.output.trans h.output, Nat.le_trans h.size k.size, fun i hi hx => ?_⟩
  rw [k.block i (Nat.lt_of_lt_of_le hi h.size) (by simp at hx ⊢; rcases hf with rfl | hf; exact hx.2; omega)]
  exact h.block i hi hx
end Go.Own
namespace Go.Proofs.YgcsalGreat
open Go.RowKit Go.Own
/-- The cost at any memory. -/
theorem costM_any (st : Value) (fb q o C U L W : Nat) (fs : Array Value) (mp : Option Addr) (mc : Nat) (w : World) (hr : w.heap[fb]? = some (.cells fs 142 (0, 0))) (h9 : fs[q + 9]? = some (.slice mp L mc)) (hC : C < 256 ^ 100) (hL : L = 32 * W) (hW : W ≤ 100) (hU : U ≤ 10000)
    (hB : ∀ w', Kept [] w w' → Calls Salg.prog 217 #[st, .pointer (some ⟨fb, q, none⟩), .int .u8 o] w' fun e w'' => ∃ r, e = .returned r ∧ NumV w'' r C ∧ Kept [] w' w'')
    (hR : ∀ w', Kept [] w w' → Calls Salg.prog 114 #[.pointer (some ⟨fb, q, none⟩), .int .u8 o] w' fun e w'' => ∃ r, e = .returned r ∧ NumV w'' r U ∧ Kept [] w' w'') :
    Calls Salg.prog 183 #[st, .pointer (some ⟨fb, q, none⟩), .int .u8 o] w fun e w' => ∃ r, e = .returned r ∧ NumV w' r (C + growC W U) ∧ Kept [] w w' := by
  rcases Nat.lt_or_ge W (wds U) with h | h
  · exact costM_up st fb q o C U L W fs mp mc w hr h9 hC hL hW hU h hB hR
  · rw [growC_same h, Nat.add_zero]
    exact costM_no st fb q o C U L W fs mp mc w hr h9 hC hL hW hU h hB hR
/-- grow at any memory. -/
theorem growM_any (wB : World) (S : List Nat) (rr fb q m G U W : Nat) (fs0 : Array Value) (ns mem : List Nat) (mv u : Value) (w : World) (hB : wB.heap.size ≤ w.heap.size) (hF : FrameM S rr w fb q fs0 m G ns mv) (hm : MemX wB w S mv mem) (hsl : ∀ b ∈ S, b < w.heap.size) (hu : NumV w u U) (hU : U ≤ 10000) (hL : mem.length = 32 * W) (hW : W ≤ 100) (hrr : rr ≤ ns.length) :
    Calls Salg.prog 113 #[.pointer (some ⟨fb, q, none⟩), u] w fun e w' => ∃ r mv' S', e = .returned r ∧ FrameM S' rr w' fb q fs0 m G ns mv' ∧ MemX wB w' S' mv' (growB mem U) ∧ (∀ v ds, NatS S w v ds → NatS S' w' v ds) ∧ (∀ b ∈ S', b < w'.heap.size) ∧ Kept [fb] w w' := by
  obtain ⟨fs, f1, _, _, f9, fn⟩ := hF.row
  rcases Nat.lt_or_ge W (wds U) with h | h
  · rcases hm with ⟨rfl, rfl⟩ | ⟨mb0, rfl, m2, rfl, m4, m5⟩
    · have hW0 : W = 0 := by simp at hL; omega
      subst hW0
      refine (growM_new S rr fb q m G U fs0 ns u w hF hu hU h).mono ?_
      rintro e w' ⟨r, mb, rfl, e1, e2, e3, e4, e5, K⟩
      refine ⟨r, _, [mb], rfl, e4.mono (fun _ h => h) hrr, .inr ⟨mb, ?_, ?_, rfl, Nat.le_trans hB e1, ?_⟩, fun v ds hv => ⟨hv.1.keptC K f1 fn, (hv.1.off (S := [mb]) (by simpa using e1)).2⟩, (by intro b hb; simp only [List.mem_singleton] at hb; subst hb; exact lt_of_row e5), K⟩
      · rw [growB_length hL, Nat.zero_max]
      · rw [growB]
        simpa using e5
      · rw [growB_length hL]; omega
    · refine (growM_more [mb0] rr fb q m G U fs0 ns mb0 W mem u w hF hu hU m2 hL hW (by omega) h).mono ?_
      rintro e w' ⟨r, mb, rfl, e1, e2, e3, e4, e5, K⟩
      refine ⟨r, _, [mb], rfl, e4.mono (fun _ h => h) hrr, .inr ⟨mb, ?_, e5, rfl, Nat.le_trans hB e1, ?_⟩, fun v ds hv => ⟨hv.1.keptC K f1 fn, (hv.1.off (S := [mb]) (by simpa using e1)).2⟩, (by intro b hb; simp only [List.mem_singleton] at hb; subst hb; exact lt_of_row e5), K⟩
      · rw [growB_length hL, Nat.max_eq_right (Nat.le_of_lt h)]
      · rw [growB_length hL]; omega
  · obtain ⟨mp, mc, e1⟩ := hm.cell
    rw [e1] at f9
    refine (growM_no fb q U mem.length W fs mp mc u w f1 f9 hu hL hW hU h).mono ?_
    rintro e w' ⟨r, rfl, K⟩
    rw [growB_same hL h]
    exact ⟨r, mv, S, rfl, hF.kept K, hm.kept K, fun v ds hv => hv.kept K, fun b hb => Nat.lt_of_lt_of_le (hsl b hb) K.size, K.mono (by simp)⟩
end Go.Proofs.YgcsalGreat

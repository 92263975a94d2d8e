/-
  A frame whose numbers lie off the memory's blocks.
-/
import Derived.Test.YgcsalGreatCp1
import Derived.Test.YgcsalGreatSl25
set_option linter.unusedSimpArgs false
set_option linter.unusedVariables false
namespace Go.Own
theorem NumS.keptC {S : List Nat} {w w' : World} {v : Value} {n c tc : Nat} {cs : Array Value} (h : NumS S w v n) (k : Kept [c] w w') (hr : w.heap[c]? = some (.cells cs tc (0, 0))) (ho : ∀ t l, Obj.cells cs tc (0, 0) ≠ R8 t l) : NumS S w' v n := by
  obtain ⟨ds, h1, h2, h3, h4⟩ := h
  exact ⟨ds, h1.keptC k hr ho, h2, h3, h4⟩
theorem NumF.keptC {w0 w w' : World} {v : Value} {n c tc : Nat} {cs : Array Value} (h : NumF w0 w v n) (k : Kept [c] w w') (hr : w.heap[c]? = some (.cells cs tc (0, 0))) (ho : ∀ t l, Obj.cells cs tc (0, 0) ≠ R8 t l) : NumF w0 w' v n := by
  obtain ⟨ds, h1, h2, h3, h4⟩ := h
  exact ⟨ds, h1.keptC k hr ho, h2, h3, h4⟩
theorem NumS.one {S : List Nat} {w : World} {v : Value} {n : Nat} (h : NumS S w v n) : v.oneCell' = true := h.num.one
theorem NumF.one {w0 w : World} {v : Value} {n : Nat} (h : NumF w0 w v n) : v.oneCell' = true := h.num.one
/-- What may be written while the numbers off S live on. -/
def Soft (S X : List Nat) (w : World) : Prop := ∀ x ∈ X, ∃ cs tc, w.heap[x]? = some (.cells cs tc (0, 0)) ∧ tc ≠ 142 ∧ tc ≠ 89 ∧ (x ∈ S ∨ ∀ t l, Obj.cells cs tc (0, 0) ≠ R8 t l)
theorem Soft.kept {S X : List Nat} {w w' : World} (h : Soft S X w) (k : Kept [] w w') : Soft S X w' := fun x hx => by
  obtain ⟨cs, tc, h1, h2⟩ := h x hx
  exact ⟨cs, tc, k.row h1 (by simp), h2⟩
theorem soft_nil (S : List Nat) (w : World) : Soft S [] w := fun x hx => by cases hx
theorem soft_mem {S : List Nat} {w : World} {b t : Nat} {l : List Nat} (h : w.heap[b]? = some (R8 t l)) (ht : t ≠ 142 ∧ t ≠ 89) (hb : b ∈ S) : Soft S [b] w := fun x hx => by
  simp only [List.mem_singleton] at hx
  subst hx
  exact ⟨_, _, h, ht.1, ht.2, .inl hb⟩
theorem Soft.row {S X : List Nat} {w w' : World} (h : Soft S X w) (k : Kept X w w') {b t : Nat} {cs : Array Value} (hr : w.heap[b]? = some (.cells cs t (0, 0))) (ht : t = 142 ∨ t = 89) : w'.heap[b]? = some (.cells cs t (0, 0)) := by
  refine k.row hr fun hx => ?_
  obtain ⟨cs2, tc, h1, h2, h3, _⟩ := h b hx
  rw [hr] at h1
  cases h1
  rcases ht with ht | ht
  · exact h2 ht
  · exact h3 ht
theorem NumS.keptX {S X : List Nat} {w w' : World} {v : Value} {n : Nat} (h : NumS S w v n) (k : Kept X w w') (hX : Soft S X w) : NumS S w' v n := by
  obtain ⟨ds, ⟨p, c, rfl, h1, h2, hd, hs⟩, ht, hv, h4⟩ := h
  refine ⟨ds, ⟨p, c, rfl, h1, h2, ?_, hs⟩, ht, hv, h4⟩
  rcases hd with hd | ⟨b, t, cs, rfl, hr, hp⟩
  · exact .inl hd
  · rcases h4 with h4 | h4
    · exact .inl h4
    · refine .inr ⟨b, t, cs, rfl, k.row hr fun hx => ?_, hp⟩
      obtain ⟨cs2, tc, h5, _, _, h6⟩ := hX b hx
      rcases h6 with h6 | h6
      · exact h4 b rfl h6
      · rw [hr] at h5
        exact h6 t cs (Option.some.inj h5).symm
theorem RowV.keptX {S X : List Nat} {w w' : World} {v : Value} {xs : List Value} (h : RowV w 89 v xs) (k : Kept X w w') (hX : Soft S X w) : RowV w' 89 v xs := by
  rcases h with h | ⟨g, cap, cur, h1, h2, h3⟩
  · exact .inl h
  · exact .inr ⟨g, cap, cur, h1, hX.row k h2 (.inr rfl), h3⟩
/-- The numbers at the stack's bottom lie off S. -/
def NumsS (S : List Nat) (w : World) (xs : List Value) (ns : List Nat) : Prop := xs.length = ns.length ∧ ∀ (k : Nat) (v : Value) (n : Nat), xs[k]? = some v → ns[k]? = some n → NumS S w v n
theorem NumsS.num {S : List Nat} {w : World} {xs : List Value} {ns : List Nat} (h : NumsS S w xs ns) : NumsV w xs ns := ⟨h.1, fun k v n h1 h2 => (h.2 k v n h1 h2).num⟩
/-- A frame at offset q: like fs0 but for the counter m, the gas G, the stack ns and the memory's cell mv; the counter, the gas and the r lowest words of the stack lie off S. -/
def FrameM (S : List Nat) (r : Nat) (w : World) (fb q : Nat) (fs0 : Array Value) (m G : Nat) (ns : List Nat) (mv : Value) : Prop := ∃ (fs : Array Value) (pv gv sv : Value) (xs : List Value), w.heap[fb]? = some (.cells fs 142 (0, 0)) ∧ fs.size = fs0.size ∧ (∀ k, k ≠ q + 3 → k ≠ q + 4 → k ≠ q + 8 → k ≠ q + 9 → fs[k]? = fs0[k]?) ∧ fs[q + 3]? = some pv ∧ NumS S w pv m ∧ fs[q + 4]? = some gv ∧ NumS S w gv G ∧ fs[q + 8]? = some sv ∧ RowV w 89 sv xs ∧ NumsV w xs ns ∧ fs[q + 9]? = some mv ∧ (∀ (j : Nat) (v : Value) (n : Nat), j < r → xs[j]? = some v → ns[j]? = some n → NumS S w v n)
section
variable {S : List Nat} {r : Nat} {w w' : World} {fb q : Nat} {fs0 : Array Value} {m G : Nat} {ns : List Nat} {mv : Value}
theorem FrameM.toQ (h : FrameM S r w fb q fs0 m G ns mv) : FrameQ w fb q fs0 m G ns mv := by
  obtain ⟨fs, pv, gv, sv, xs, h1, h0, h2, h3, h4, h5, h6, h7, h8, h9, ha, _⟩ := h
  exact ⟨fs, pv, gv, sv, xs, h1, h0, h2, h3, h4.num, h5, h6.num, h7, h8, h9, ha⟩
theorem FrameM.kept (h : FrameM S r w fb q fs0 m G ns mv) (k : Kept [] w w') : FrameM S r w' fb q fs0 m G ns mv := by
  obtain ⟨fs, pv, gv, sv, xs, h1, h0, h2, h3, h4, h5, h6, h7, h8, h9, ha, hb⟩ := h
  exact ⟨fs, pv, gv, sv, xs, k.row h1 (by simp), h0, h2, h3, h4.kept k, h5, h6.kept k, h7, h8.kept k, h9.kept k, ha, fun j v n e1 e2 e3 => (hb j v n e1 e2 e3).kept k⟩
theorem FrameM.keptC {c tc : Nat} {cs : Array Value} (h : FrameM S r w fb q fs0 m G ns mv) (k : Kept [c] w w') (hr : w.heap[c]? = some (.cells cs tc (0, 0))) (ho : ∀ t l, Obj.cells cs tc (0, 0) ≠ R8 t l) (ht : tc ≠ 142) (ht2 : tc ≠ 89) : FrameM S r w' fb q fs0 m G ns mv := by
  obtain ⟨fs, pv, gv, sv, xs, h1, h0, h2, h3, h4, h5, h6, h7, h8, h9, ha, hb⟩ := h
  exact ⟨fs, pv, gv, sv, xs, k.row h1 (row_ne hr h1 (by rintro h; cases h; exact ht rfl)), h0, h2, h3, h4.keptC k hr ho, h5, h6.keptC k hr ho, h7, h8.keptC k hr ht2, h9.keptC k hr ho, ha, fun j v n e1 e2 e3 => (hb j v n e1 e2 e3).keptC k hr ho⟩
theorem FrameM.keptX {X : List Nat} (h : FrameM S r w fb q fs0 m G ns mv) (k : Kept X w w') (hX : Soft S X w) (hr : ns.length ≤ r) : FrameM S r w' fb q fs0 m G ns mv := by
  obtain ⟨fs, pv, gv, sv, xs, h1, h0, h2, h3, h4, h5, h6, h7, h8, h9, ha, hb⟩ := h
  refine ⟨fs, pv, gv, sv, xs, hX.row k h1 (.inl rfl), h0, h2, h3, h4.keptX k hX, h5, h6.keptX k hX, h7, h8.keptX k hX, ⟨h9.1, fun j v n e1 e2 => ?_⟩, ha, fun j v n e1 e2 e3 => (hb j v n e1 e2 e3).keptX k hX⟩
  have := (List.getElem?_eq_some_iff.1 e2).1
  exact ((hb j v n (by omega) e1 e2).keptX k hX).num
/-- Only a new block: every number is off it. -/
theorem FrameQ.off {w : World} {fb q : Nat} {fs0 : Array Value} {m G : Nat} {ns : List Nat} {mv : Value} (h : FrameQ w fb q fs0 m G ns mv) {S : List Nat} (hS : ∀ b ∈ S, w.heap.size ≤ b) : FrameM S ns.length w fb q fs0 m G ns mv := by
  obtain ⟨fs, pv, gv, sv, xs, h1, h0, h2, h3, h4, h5, h6, h7, h8, h9, ha⟩ := h
  exact ⟨fs, pv, gv, sv, xs, h1, h0, h2, h3, h4.off hS, h5, h6.off hS, h7, h8, h9, ha, fun j v n e1 e2 e3 => (h9.2 j v n e2 e3).off hS⟩
theorem FrameM.mono {S' : List Nat} {r' : Nat} (h : FrameM S r w fb q fs0 m G ns mv) (hs : ∀ b ∈ S', b ∈ S) (hr : r' ≤ r) : FrameM S' r' w fb q fs0 m G ns mv := by
  obtain ⟨fs, pv, gv, sv, xs, h1, h0, h2, h3, h4, h5, h6, h7, h8, h9, ha, hb⟩ := h
  exact ⟨fs, pv, gv, sv, xs, h1, h0, h2, h3, h4.mono hs, h5, h6.mono hs, h7, h8, h9, ha, fun j v n e1 e2 e3 => (hb j v n (by omega) e2 e3).mono hs⟩
end
/-- What does not change in a frame. -/
structure FrD (fs0 : Array Value) (q : Nat) (cv : Value) : Prop where
  f1 : fs0[q + 1]? = some (.int .u8 0)
  f2 : fs0[q + 2]? = some (.bool false)
  f10 : fs0[q + 10]? = some cv
  size : q + 60 ≤ fs0.size
theorem FrC.toD {fs0 : Array Value} {q : Nat} {cv : Value} (h : FrC fs0 q cv) : FrD fs0 q cv := ⟨h.f1, h.f2, h.f10, h.size⟩
end Go.Own

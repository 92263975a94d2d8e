/-
  The seat's own base: what a walk says of memory, block by block.
  'Kept X w w'': every block that w had is as it was in w', but for those listed in X.
  'Mem w0 X L w': since w0 only blocks of X and new blocks were written; each block of L holds what L says.
-/
import Derived.WalkKit
import Derived.Deep.Quiet
import Derived.Deep.MidRow
namespace Go.Own

theorem hid {p : Prop} (h : p) : RowKit.Hid p := h

structure Kept (X : List Nat) (w w' : World) : Prop where
  os : w'.os = w.os
  tape : w'.tape = w.tape
  output : w'.output = w.output
  size : w.heap.size ≤ w'.heap.size
  block : ∀ k, k < w.heap.size → k ∉ X → w'.heap[k]? = w.heap[k]?

theorem Kept.refl (X : List Nat) (w : World) : Kept X w w := ⟨rfl, rfl, rfl, Nat.le_refl _, fun _ _ _ => rfl⟩

theorem Kept.trans {X : List Nat} {a b c : World} (h : Kept X a b) (k : Kept X b c) : Kept X a c :=
  ⟨k.os.trans h.os, k.tape.trans h.tape, k.output.trans h.output, Nat.le_trans h.size k.size,
    fun i hi hx => (k.block i (Nat.lt_of_lt_of_le hi h.size) hx).trans (h.block i hi hx)⟩

theorem Kept.mono {X Y : List Nat} {a b : World} (h : Kept X a b) (hs : ∀ k ∈ X, k ∈ Y) : Kept Y a b :=
  ⟨h.os, h.tape, h.output, h.size, fun i hi hx => h.block i hi (fun hk => hx (hs _ hk))⟩

theorem Kept.below {w w' : World} (h : Kept [] w w') : RowKit.Below w.heap.size w w' :=
  ⟨h.os, h.tape, h.output, h.size, fun k hk => h.block k hk (by simp)⟩

theorem lt_of_row {w : World} {b : Nat} {o : Obj} (h : w.heap[b]? = some o) : b < w.heap.size := by
  rcases Nat.lt_or_ge b w.heap.size with h' | h'
  · exact h'
  · simp [Array.getElem?_eq_none h'] at h

theorem Kept.row {X : List Nat} {w w' : World} (h : Kept X w w') {b : Nat} {o : Obj} (hr : w.heap[b]? = some o) (hx : b ∉ X) : w'.heap[b]? = some o := by
  rw [h.block b (lt_of_row hr) hx]; exact hr

theorem Kept.drew {X : List Nat} {w w' : World} (h : Kept X w w') : Kept X w w'.drew := ⟨h.os, h.tape, h.output, h.size, h.block⟩

structure Mem (w0 : World) (X : List Nat) (L : List (Nat × Obj)) (w : World) : Prop where
  kept : Kept X w0 w
  rows : ∀ p ∈ L, w.heap[p.1]? = some p.2
  apart : (L.map (·.1)).Pairwise (· ≠ ·)

theorem Mem.row {w0 w : World} {X : List Nat} {L : List (Nat × Obj)} (M : Mem w0 X L w) {b : Nat} {o : Obj} (h : (b, o) ∈ L) : w.heap[b]? = some o := M.rows _ h

theorem Mem.drew {w0 w : World} {X : List Nat} {L : List (Nat × Obj)} (M : Mem w0 X L w) : Mem w0 X L { w with drawn := w.drawn + 1 } :=
  ⟨⟨M.kept.os, M.kept.tape, M.kept.output, M.kept.size, M.kept.block⟩, M.rows, M.apart⟩

theorem Mem.start (w : World) (X : List Nat) : Mem w X [] w := ⟨Kept.refl _ _, by simp, by simp⟩

theorem Mem.lt {w0 w : World} {X : List Nat} {L : List (Nat × Obj)} (M : Mem w0 X L w) {p : Nat × Obj} (h : p ∈ L) : p.1 < w.heap.size := lt_of_row (M.rows p h)

/-- A row that was there joins the list. -/
theorem Mem.add {w0 w : World} {X : List Nat} {L : List (Nat × Obj)} (M : Mem w0 X L w) {b : Nat} {o : Obj} (h : w.heap[b]? = some o) (hn : ∀ p ∈ L, b ≠ p.1) : Mem w0 X ((b, o) :: L) w :=
  ⟨M.kept, by intro p hp; rcases List.mem_cons.1 hp with rfl | hp; exact h; exact M.rows p hp,
    by simp only [List.map_cons, List.pairwise_cons]; exact ⟨by intro k hk; obtain ⟨p, hp, rfl⟩ := List.mem_map.1 hk; exact hn p hp, M.apart⟩⟩

/-- A new block. -/
theorem Mem.alloc {w0 w : World} {X : List Nat} {L : List (Nat × Obj)} (M : Mem w0 X L w) (o : Obj) :
    w0.heap.size ≤ w.heap.size ∧ Mem w0 X ((w.heap.size, o) :: L) { w with heap := w.heap.push o } := by
  refine ⟨M.kept.size, ⟨M.kept.os, M.kept.tape, M.kept.output, by have := M.kept.size; simp; omega, fun k hk hx => ?_⟩, ?_, ?_⟩
  · have := M.kept.size
    rw [← M.kept.block k hk hx]
    simp only [Array.getElem?_push]; rw [if_neg (by omega)]
  · intro p hp
    rcases List.mem_cons.1 hp with rfl | hp
    · simp
    · have := M.lt hp
      simp only [Array.getElem?_push]; rw [if_neg (by omega)]; exact M.rows p hp
  · simp only [List.map_cons, List.pairwise_cons]
    refine ⟨?_, M.apart⟩
    intro k hk
    obtain ⟨p, hp, rfl⟩ := List.mem_map.1 hk
    have := M.lt hp
    omega

/-- The world with block b turned into o. -/
def putRow (w : World) (b : Nat) (o : Obj) : World := { w with heap := w.heap.setIfInBounds b o }

theorem putRow_putRow (w : World) (b : Nat) (o o' : Obj) : putRow (putRow w b o) b o' = putRow w b o' := by
  simp [putRow, Array.setIfInBounds_setIfInBounds]

theorem putRow_same {w : World} {b : Nat} {o : Obj} (h : w.heap[b]? = some o) : putRow w b o = w := by
  have hlt := lt_of_row h
  unfold putRow
  have : w.heap.setIfInBounds b o = w.heap := by
    apply Array.ext_getElem?
    intro i
    rw [Array.getElem?_setIfInBounds]
    split
    · subst_vars; simp [hlt, ← h]
    · rfl
  rw [this]

theorem putRow_row {w : World} {b : Nat} (o : Obj) (h : b < w.heap.size) : (putRow w b o).heap[b]? = some o := by
  simp [putRow, h]

theorem putRow_other {w : World} {b k : Nat} (o : Obj) (h : k ≠ b) : (putRow w b o).heap[k]? = w.heap[k]? := by
  simp only [putRow]; rw [Array.getElem?_setIfInBounds_ne (Ne.symm h)]

theorem Mem.put {w0 w : World} {X : List Nat} {L1 L2 : List (Nat × Obj)} {b : Nat} {o : Obj} (M : Mem w0 X (L1 ++ (b, o) :: L2) w) (hb : b ∈ X ∨ w0.heap.size ≤ b) (o' : Obj) :
    Mem w0 X (L1 ++ (b, o') :: L2) (putRow w b o') := by
  have hlt : b < w.heap.size := M.lt (p := (b, o)) (by simp)
  have hap := M.apart
  simp only [List.map_append, List.map_cons, List.pairwise_append, List.pairwise_cons] at hap
  obtain ⟨a1, ⟨a2, a3⟩, a4⟩ := hap
  refine ⟨⟨M.kept.os, M.kept.tape, M.kept.output, by simpa [putRow] using M.kept.size, fun k hk hx => ?_⟩, ?_, ?_⟩
  · rw [← M.kept.block k hk hx]
    refine putRow_other _ ?_
    rcases hb with hb | hb
    · intro h; subst h; exact hx hb
    · omega
  · intro p hp
    rcases List.mem_append.1 hp with hp | hp
    · rw [putRow_other _ (a4 p.1 (List.mem_map.2 ⟨p, hp, rfl⟩) b (by simp))]; exact M.rows p (by simp [hp])
    · rcases List.mem_cons.1 hp with rfl | hp
      · exact putRow_row _ hlt
      · rw [putRow_other _ (Ne.symm (a2 p.1 (List.mem_map.2 ⟨p, hp, rfl⟩)))]; exact M.rows p (by simp [hp])
  · have := M.apart
    simpa only [List.map_append, List.map_cons] using this

/-- Behind a callee that turned nothing. -/
theorem Mem.call {w0 w w' : World} {X : List Nat} {L : List (Nat × Obj)} (M : Mem w0 X L w) (h : Kept [] w w') : Mem w0 X L w' :=
  ⟨M.kept.trans (h.mono (by simp)), fun p hp => h.row (M.rows p hp) (by simp), M.apart⟩

/-- Behind a callee that turned block b. -/
theorem Mem.callPut {w0 w w' : World} {X : List Nat} {L1 L2 : List (Nat × Obj)} {b : Nat} {o o' : Obj} (M : Mem w0 X (L1 ++ (b, o) :: L2) w) (hb : b ∈ X ∨ w0.heap.size ≤ b) (h : Kept [b] w w') (hr : w'.heap[b]? = some o') :
    Mem w0 X (L1 ++ (b, o') :: L2) w' := by
  have hap := M.apart
  simp only [List.map_append, List.map_cons, List.pairwise_append, List.pairwise_cons] at hap
  obtain ⟨a1, ⟨a2, a3⟩, a4⟩ := hap
  refine ⟨⟨h.os.trans M.kept.os, h.tape.trans M.kept.tape, h.output.trans M.kept.output, Nat.le_trans M.kept.size h.size, fun k hk hx => ?_⟩, ?_, ?_⟩
  · rw [h.block k (Nat.lt_of_lt_of_le hk M.kept.size) ?_, M.kept.block k hk hx]
    rcases hb with hb | hb
    · intro h; simp at h; subst h; exact hx hb
    · simp; omega
  · intro p hp
    rcases List.mem_append.1 hp with hp | hp
    · exact h.row (M.rows p (by simp [hp])) (by simpa using a4 p.1 (List.mem_map.2 ⟨p, hp, rfl⟩) b (by simp))
    · rcases List.mem_cons.1 hp with rfl | hp
      · exact hr
      · exact h.row (M.rows p (by simp [hp])) (by simpa using Ne.symm (a2 p.1 (List.mem_map.2 ⟨p, hp, rfl⟩)))
  · have := M.apart
    simpa only [List.map_append, List.map_cons] using this

/-! ### Cells of a row -/
theorem cell_of_row {w : World} {b : Nat} {cs : Array Value} {t : TypeId} {fr : Nat × Nat} (h : w.heap[b]? = some (.cells cs t fr)) (i : Nat) : w.cell? ⟨b, i, none⟩ = cs[i]? := by
  simp [World.cell?, h]
theorem frozen_of_row {w : World} {b : Nat} {cs : Array Value} {t : TypeId} (h : w.heap[b]? = some (.cells cs t (0, 0))) (i : Nat) : w.frozen? ⟨b, i, none⟩ = false := by
  simp [World.frozen?, h]
theorem setCell_row {w : World} {b : Nat} {cs : Array Value} {t : TypeId} {fr : Nat × Nat} (h : w.heap[b]? = some (.cells cs t fr)) (i : Nat) (v : Value) :
    w.setCell ⟨b, i, none⟩ v = putRow w b (.cells (cs.setIfInBounds i v) t fr) := by
  have hlt := lt_of_row h
  unfold World.setCell putRow
  congr 1
  apply Array.ext_getElem?
  intro k
  rw [Array.getElem?_modify, Array.getElem?_setIfInBounds]
  by_cases hk : b = k
  · subst hk
    have h' : w.heap[b] = .cells cs t fr := by rw [Array.getElem?_eq_getElem hlt] at h; simpa using h
    simp [hlt, h']
  · simp [hk]
theorem range_of_row {w : World} {b : Nat} {cs : Array Value} {t : TypeId} {fr : Nat × Nat} (h : w.heap[b]? = some (.cells cs t fr)) (o : Nat) (l : List Value) (hl : ∀ j v, l[j]? = some v → cs[o + j]? = some v) : w.rangeAt b o l := by
  intro j v hv
  rw [cell_of_row h]; exact hl j v hv


/-! ### What an operation does to a row: the run of loads and stores -/
section
variable {P : Program}

theorem run_loadVar_row {w : World} {b o : Nat} {cs : Array Value} {t : TypeId} {fr : Nat × Nat} (h : w.heap[b]? = some (.cells cs t fr)) {ty : TypeId} {d : TypeDesc} {n : Nat}
    (hu : P.underlying ty = some d) (hd : d.isRow = true) (hi : (P.info? ty).map (·.size) = some n) (hle : o + n ≤ cs.size) :
    (loadVar ty ⟨b, o, none⟩).run P w = .ok (.agg (cs.extract o (o + n))) w := by
  have := run_loadVar_mid (P := P) w b o ty (cs.extract o (o + n)).toList d (range_of_row h o _ (by
    intro j v hv
    simp only [Array.getElem?_toList] at hv
    rw [Array.getElem?_extract] at hv
    split at hv
    · exact hv
    · cases hv)) hu hd (by rw [hi]; simp; omega)
  rw [Array.toArray_toList] at this
  exact this

theorem run_load_cell {w : World} {b i : Nat} {cs : Array Value} {t : TypeId} {fr : Nat × Nat} (h : w.heap[b]? = some (.cells cs t fr)) {v : Value} (hv : cs[i]? = some v) (m : Mode) :
    (Sem.load m ⟨b, i, none⟩ Sem.pure).run P w = .ok v w := by
  simp [Sem.run, cell_of_row h, hv]

theorem run_loadVar_cell {w : World} {b i : Nat} {cs : Array Value} {t : TypeId} {fr : Nat × Nat} (h : w.heap[b]? = some (.cells cs t fr)) {v : Value} (hv : cs[i]? = some v) {ty : TypeId} {d : TypeDesc}
    (hu : P.underlying ty = some d) (hd : d.isRow = false) : (loadVar ty ⟨b, i, none⟩).run P w = .ok v w := by
  have hagg : (isAgg ty).run P w = .ok false w := by
    unfold isAgg
    rw [Sem.run_bind, run_underlying hu w]
    cases d <;> simp_all
  simp [loadVar, Sem.run_bind, hagg, load, Sem.run, cell_of_row h, hv]

/-- Cells from o on replaced by vs. -/
def splice (cs : Array Value) (o : Nat) : List Value → Array Value
  | [] => cs
  | v :: vs => splice (cs.setIfInBounds o v) (o + 1) vs

theorem splice_size (vs : List Value) : ∀ (cs : Array Value) (o : Nat), (splice cs o vs).size = cs.size := by
  induction vs with
  | nil => intro cs o; rfl
  | cons v vs ih => intro cs o; rw [splice, ih]; simp

theorem splice_get (vs : List Value) : ∀ (cs : Array Value) (o k : Nat), o + vs.length ≤ cs.size → (splice cs o vs)[k]? = if o ≤ k ∧ k < o + vs.length then vs[k - o]? else cs[k]? := by
  induction vs with
  | nil => intro cs o k _; simp [splice]; intro h1 h2; omega
  | cons v vs ih =>
    intro cs o k hle
    simp only [List.length_cons] at hle
    rw [splice, ih _ _ _ (by simp; omega)]
    by_cases h1 : o + 1 ≤ k ∧ k < o + 1 + vs.length
    · rw [if_pos h1, if_pos (by simp only [List.length_cons]; omega)]
      rw [show k - o = (k - (o + 1)) + 1 from by omega]; simp
    · rw [if_neg h1, Array.getElem?_setIfInBounds]
      by_cases h2 : o = k
      · subst h2; simp; omega
      · rw [if_neg h2, if_neg (by simp only [List.length_cons]; omega)]

theorem splice_all {cs : Array Value} {vs : List Value} (h : vs.length = cs.size) : splice cs 0 vs = vs.toArray := by
  apply Array.ext_getElem?
  intro k
  rw [splice_get _ _ _ _ (by omega)]
  by_cases hk : k < vs.length
  · rw [if_pos (by omega)]; simp
  · rw [if_neg (by omega)]
    rw [Array.getElem?_eq_none (by omega)]
    simp; omega

theorem run_storeCells_row (vs : List Value) (h1 : ∀ v ∈ vs, v.oneCell' = true) : ∀ (w : World) (b o i : Nat) (cs : Array Value) (t : TypeId), w.heap[b]? = some (.cells cs t (0, 0)) → o + i + vs.length ≤ cs.size →
    (storeCells ⟨b, o, none⟩ vs i).run P w = .ok () (putRow w b (.cells (splice cs (o + i) vs) t (0, 0))) := by
  induction vs with
  | nil => intro w b o i cs t h _; simp [storeCells, splice, putRow_same h]
  | cons v vs ih =>
    intro w b o i cs t h hle
    simp only [List.length_cons] at hle
    have hv : v.oneCell' = true := h1 v (by simp)
    have hlt := lt_of_row h
    have hs : (store (Addr.add ⟨b, o, none⟩ i) v).run P w = .ok () (putRow w b (.cells (cs.setIfInBounds (o + i) v) t (0, 0))) := by
      rw [Addr.add_mid]
      have hc : w.cell? ⟨b, o + i, none⟩ = some cs[o + i] := by rw [cell_of_row h]; exact Array.getElem?_eq_getElem (by omega)
      cases v <;> simp_all [store, Sem.run, frozen_of_row h, setCell_row h, Value.oneCell']
    rw [storeCells, Sem.run_bind, hs]
    simp only [Result.andThen_ok]
    rw [ih (fun u hu => h1 u (by simp [hu])) _ b o (i + 1) (cs.setIfInBounds (o + i) v) t (putRow_row _ hlt) (by simp; omega)]
    simp only [putRow_putRow, splice]
    rw [Nat.add_assoc]
end


/-! ### The laws of a walk: one operation at the head of a region that does not draw -/
section
variable {P : Program} {ops : Array Oper} {Q : Exit → Act → World → Prop} {a : Act} {w w0 : World} {rest : List Oper} {X : List Nat} {L L1 L2 : List (Nat × Obj)}

theorem L_run {o : Oper} {v : Value} {w' : World} (hg : o.guard = none) (hr : (execOp a.eval o).run P w = .ok (.value v) w') (k : wpList P ops Q rest (a.put o.dst v) w') : wpList P ops Q (o :: rest) a w :=
  wpList_plain hg fun K hK => by unfold Oper.wp; rw [hr]; exact hK _ _ k

theorem L_skip {o : Oper} {w' : World} (hg : o.guard = none) (hr : (execOp a.eval o).run P w = .ok .skip w') (k : wpList P ops Q rest (a.put o.dst undef) w') : wpList P ops Q (o :: rest) a w :=
  wpList_plain hg fun K hK => by unfold Oper.wp; rw [hr]; exact hK _ _ k

theorem L_box {d : Tmp} {t ty : TypeId} {x : Operand} {pos : String} {after : Array Edge} {cs : Array Value} (M : Mem w0 X L w) (hx : a.eval x = .agg cs)
    (k : ∀ b w', w0.heap.size ≤ b → Mem w0 X ((b, .cells cs t (0, 0)) :: L) w' → wpList P ops Q rest (a.put (some d) (.pointer (some ⟨b, 0, none⟩))) w') :
    wpList P ops Q ({ dst := some d, op := .box t x, type := ty, pos := pos, after := after, guard := none } :: rest) a w := by
  have ⟨h1, h2⟩ := M.alloc (.cells cs t (0, 0))
  refine L_run rfl ?_ (k _ _ h1 h2)
  simp [execOp, hx, Instr.box, newVar, newRow, newObj, Value.cells, Sem.run]

theorem L_alloc {d : Tmp} {t ty : TypeId} {pos : String} {after : Array Edge} {z : Value} (M : Mem w0 X L w) (hz : ((P.info? t).bind (·.zero)) = some z)
    (k : ∀ b w', w0.heap.size ≤ b → Mem w0 X ((b, .cells z.cells t (0, 0)) :: L) w' → wpList P ops Q rest (a.put (some d) (.pointer (some ⟨b, 0, none⟩))) w') :
    wpList P ops Q ({ dst := some d, op := .alloc t, type := ty, pos := pos, after := after, guard := none } :: rest) a w := by
  have ⟨h1, h2⟩ := M.alloc (.cells z.cells t (0, 0))
  refine L_run rfl ?_ (k _ _ h1 h2)
  cases hq : P.info? t with
  | none => simp [hq] at hz
  | some i =>
    have hz' : i.zero = some z := by simpa [hq] using hz
    simp [execOp, Instr.alloc, zeroValue, typeInfo, hq, hz', newVar, newRow, newObj, Sem.run]

theorem L_allocA {d : Tmp} {t ty : TypeId} {pos : String} {after : Array Edge} {cs : Array Value} (M : Mem w0 X L w) (hz : ((P.info? t).bind (·.zero)) = some (.agg cs))
    (k : ∀ b w', w0.heap.size ≤ b → Mem w0 X ((b, .cells cs t (0, 0)) :: L) w' → wpList P ops Q rest (a.put (some d) (.pointer (some ⟨b, 0, none⟩))) w') :
    wpList P ops Q ({ dst := some d, op := .alloc t, type := ty, pos := pos, after := after, guard := none } :: rest) a w := L_alloc M hz k

theorem run_load {w : World} {b o n : Nat} {cs : Array Value} {t : TypeId} {fr : Nat × Nat} {dst : Option Tmp} {x : Operand} {ty ty' : TypeId} {pos : String} {after : Array Edge} {g : Option (Nat × Bool)} {d : TypeDesc}
    (h : w.heap[b]? = some (.cells cs t fr)) (hx : a.eval x = .pointer (some ⟨b, o, none⟩))
    (hu : P.underlying ty = some d) (hd : d.isRow = true) (hi : (P.info? ty).map (·.size) = some n) (hle : o + n ≤ cs.size) :
    (execOp a.eval { dst := dst, op := .load ty x, type := ty', pos := pos, after := after, guard := g }).run P w = .ok (.value (.agg (cs.extract o (o + n)))) w := by
  simp [execOp, hx, Instr.loadAt, Instr.sureAddr, run_loadVar_row h hu hd hi hle]

theorem run_loadAll {w : World} {b : Nat} {cs : Array Value} {t : TypeId} {fr : Nat × Nat} {dst : Option Tmp} {x : Operand} {ty ty' : TypeId} {pos : String} {after : Array Edge} {g : Option (Nat × Bool)} {d : TypeDesc}
    (h : w.heap[b]? = some (.cells cs t fr)) (hx : a.eval x = .pointer (some ⟨b, 0, none⟩))
    (hu : P.underlying ty = some d) (hd : d.isRow = true) (hi : (P.info? ty).map (·.size) = some cs.size) :
    (execOp a.eval { dst := dst, op := .load ty x, type := ty', pos := pos, after := after, guard := g }).run P w = .ok (.value (.agg cs)) w := by
  have := run_load (dst := dst) (ty' := ty') (pos := pos) (after := after) (g := g) h hx hu hd hi (Nat.le_of_eq (Nat.zero_add _))
  simpa using this

theorem run_loadCell {w : World} {b i : Nat} {cs : Array Value} {t : TypeId} {fr : Nat × Nat} {dst : Option Tmp} {x : Operand} {ty ty' : TypeId} {pos : String} {after : Array Edge} {g : Option (Nat × Bool)} {d : TypeDesc} {v : Value}
    (h : w.heap[b]? = some (.cells cs t fr)) (hx : a.eval x = .pointer (some ⟨b, i, none⟩)) (hv : cs[i]? = some v)
    (hu : P.underlying ty = some d) (hd : d.isRow = false) :
    (execOp a.eval { dst := dst, op := .load ty x, type := ty', pos := pos, after := after, guard := g }).run P w = .ok (.value v) w := by
  simp [execOp, hx, Instr.loadAt, Instr.sureAddr, run_loadVar_cell h hv hu hd]

/-- A store of one cell, or of a whole array, into a row. -/
theorem run_store {w : World} {b o n : Nat} {cs : Array Value} {t : TypeId} {dst : Option Tmp} {x y : Operand} {ty ty' : TypeId} {pos : String} {after : Array Edge} {g : Option (Nat × Bool)} {v : Value}
    (h : w.heap[b]? = some (.cells cs t (0, 0))) (hx : a.eval x = .pointer (some ⟨b, o, none⟩)) (hy : a.eval y = v)
    (hi : (P.info? ty).map (·.size) = some n) (hn : v.cells.size = n) (h1 : ∀ u ∈ v.cells.toList, u.oneCell' = true) (hle : o + n ≤ cs.size) :
    (execOp a.eval { dst := dst, op := .store ty x y, type := ty', pos := pos, after := after, guard := g }).run P w = .ok .skip (putRow w b (.cells (splice cs o v.cells.toList) t (0, 0))) := by
  cases hq : P.info? ty with
  | none => simp [hq] at hi
  | some i =>
    have hs : i.size = n := by simpa [hq] using hi
    have := run_storeCells_row (P := P) v.cells.toList h1 w b o 0 cs t h (by simpa [hn] using hle)
    simp [execOp, hx, hy, Instr.storeAt, Instr.sureAddr, Sem.run_bind, storeVar, sizeOf, typeInfo, hq, hs, hn, this]

theorem run_storeAll {w : World} {b : Nat} {cs vs : Array Value} {t : TypeId} {dst : Option Tmp} {x y : Operand} {ty ty' : TypeId} {pos : String} {after : Array Edge} {g : Option (Nat × Bool)}
    (h : w.heap[b]? = some (.cells cs t (0, 0))) (hx : a.eval x = .pointer (some ⟨b, 0, none⟩)) (hy : a.eval y = .agg vs)
    (hi : (P.info? ty).map (·.size) = some cs.size) (hn : vs.size = cs.size) (h1 : ∀ u ∈ vs.toList, u.oneCell' = true) :
    (execOp a.eval { dst := dst, op := .store ty x y, type := ty', pos := pos, after := after, guard := g }).run P w = .ok .skip (putRow w b (.cells vs t (0, 0))) := by
  have := run_store (dst := dst) (ty' := ty') (pos := pos) (after := after) (g := g) h hx hy hi (by simpa [Value.cells] using hn) (by simpa [Value.cells] using h1) (Nat.le_of_eq (Nat.zero_add _))
  rw [this]
  simp only [Value.cells]
  rw [splice_all (by simpa using hn)]

theorem run_storeCell {w : World} {b o : Nat} {cs : Array Value} {t : TypeId} {dst : Option Tmp} {x y : Operand} {ty ty' : TypeId} {pos : String} {after : Array Edge} {g : Option (Nat × Bool)} {v : Value}
    (h : w.heap[b]? = some (.cells cs t (0, 0))) (hx : a.eval x = .pointer (some ⟨b, o, none⟩)) (hy : a.eval y = v) (h1 : v.oneCell' = true)
    (hi : (P.info? ty).map (·.size) = some 1) (hle : o < cs.size) :
    (execOp a.eval { dst := dst, op := .store ty x y, type := ty', pos := pos, after := after, guard := g }).run P w = .ok .skip (putRow w b (.cells (cs.setIfInBounds o v) t (0, 0))) := by
  have hc : v.cells = #[v] := by cases v <;> simp_all [Value.cells, Value.oneCell']
  have := run_store (dst := dst) (ty' := ty') (pos := pos) (after := after) (g := g) h hx hy hi (by simp [hc]) (by simpa [hc] using h1) (by omega)
  rw [this]
  simp [hc, splice]

theorem run_arrayAt {w : World} {p : Option Addr} {len cap n : Nat} {e : TypeId} {dst : Option Tmp} {x : Operand} {ty ty' : TypeId} {pos : String} {after : Array Edge} {g : Option (Nat × Bool)}
    (hx : a.eval x = .slice p len cap) (hu : P.underlying ty = some (.array n e)) (hle : n ≤ len) :
    (execOp a.eval { dst := dst, op := .sliceToArrayPointer ty x, type := ty', pos := pos, after := after, guard := g }).run P w = .ok (.value (.pointer p)) w := by
  have : ¬ len < n := by omega
  simp [execOp, hx, Instr.arrayAt, Sem.run_bind, run_underlying hu, this]

/-! ### The same at the head of a list of operations -/
theorem W_load {b o n : Nat} {cs : Array Value} {t : TypeId} {fr : Nat × Nat} {dst : Tmp} {x : Operand} {ty ty' : TypeId} {pos : String} {after : Array Edge} {d : TypeDesc}
    (hx : a.eval x = .pointer (some ⟨b, o, none⟩)) (h : w.heap[b]? = some (.cells cs t fr))
    (hu : P.underlying ty = some d) (hd : d.isRow = true) (hi : (P.info? ty).map (·.size) = some n) (hle : o + n ≤ cs.size)
    (k : wpList P ops Q rest (a.put (some dst) (.agg (cs.extract o (o + n)))) w) :
    wpList P ops Q ({ dst := some dst, op := .load ty x, type := ty', pos := pos, after := after, guard := none } :: rest) a w := L_run rfl (run_load h hx hu hd hi hle) k

theorem W_loadAll {b : Nat} {cs : Array Value} {t : TypeId} {fr : Nat × Nat} {dst : Tmp} {x : Operand} {ty ty' : TypeId} {pos : String} {after : Array Edge} {d : TypeDesc}
    (hx : a.eval x = .pointer (some ⟨b, 0, none⟩)) (h : w.heap[b]? = some (.cells cs t fr))
    (hu : P.underlying ty = some d) (hd : d.isRow = true) (hi : (P.info? ty).map (·.size) = some cs.size)
    (k : wpList P ops Q rest (a.put (some dst) (.agg cs)) w) :
    wpList P ops Q ({ dst := some dst, op := .load ty x, type := ty', pos := pos, after := after, guard := none } :: rest) a w := L_run rfl (run_loadAll h hx hu hd hi) k

theorem W_loadCell {b i : Nat} {cs : Array Value} {t : TypeId} {fr : Nat × Nat} {dst : Tmp} {x : Operand} {ty ty' : TypeId} {pos : String} {after : Array Edge} {d : TypeDesc} {v : Value}
    (hx : a.eval x = .pointer (some ⟨b, i, none⟩)) (h : w.heap[b]? = some (.cells cs t fr)) (hv : cs[i]? = some v)
    (hu : P.underlying ty = some d) (hd : d.isRow = false)
    (k : wpList P ops Q rest (a.put (some dst) v) w) :
    wpList P ops Q ({ dst := some dst, op := .load ty x, type := ty', pos := pos, after := after, guard := none } :: rest) a w := L_run rfl (run_loadCell h hx hv hu hd) k

theorem W_storeAll {b : Nat} {cs vs : Array Value} {t : TypeId} {x y : Operand} {ty ty' : TypeId} {pos : String} {after : Array Edge}
    (hx : a.eval x = .pointer (some ⟨b, 0, none⟩)) (hy : a.eval y = .agg vs) (M : Mem w0 X (L1 ++ (b, .cells cs t (0, 0)) :: L2) w) (hb : b ∈ X ∨ w0.heap.size ≤ b)
    (hi : (P.info? ty).map (·.size) = some cs.size) (hn : vs.size = cs.size) (h1 : ∀ u ∈ vs.toList, u.oneCell' = true)
    (k : ∀ w', Mem w0 X (L1 ++ (b, .cells vs t (0, 0)) :: L2) w' → wpList P ops Q rest a w') :
    wpList P ops Q ({ dst := none, op := .store ty x y, type := ty', pos := pos, after := after, guard := none } :: rest) a w :=
  L_skip rfl (run_storeAll (M.row (by simp)) hx hy hi hn h1) (k _ (M.put hb _))

theorem W_storeCell {b o : Nat} {cs : Array Value} {t : TypeId} {x y : Operand} {ty ty' : TypeId} {pos : String} {after : Array Edge} {v : Value}
    (hx : a.eval x = .pointer (some ⟨b, o, none⟩)) (hy : a.eval y = v) (M : Mem w0 X (L1 ++ (b, .cells cs t (0, 0)) :: L2) w) (hb : b ∈ X ∨ w0.heap.size ≤ b) (h1 : v.oneCell' = true)
    (hi : (P.info? ty).map (·.size) = some 1) (hle : o < cs.size)
    (k : ∀ w', Mem w0 X (L1 ++ (b, .cells (cs.setIfInBounds o v) t (0, 0)) :: L2) w' → wpList P ops Q rest a w') :
    wpList P ops Q ({ dst := none, op := .store ty x y, type := ty', pos := pos, after := after, guard := none } :: rest) a w :=
  L_skip rfl (run_storeCell (M.row (by simp)) hx hy h1 hi hle) (k _ (M.put hb _))

theorem W_arrayAt {p : Option Addr} {len cap n : Nat} {e : TypeId} {dst : Tmp} {x : Operand} {ty ty' : TypeId} {pos : String} {after : Array Edge}
    (hx : a.eval x = .slice p len cap) (hu : P.underlying ty = some (.array n e)) (hle : n ≤ len)
    (k : wpList P ops Q rest (a.put (some dst) (.pointer p)) w) :
    wpList P ops Q ({ dst := some dst, op := .sliceToArrayPointer ty x, type := ty', pos := pos, after := after, guard := none } :: rest) a w := L_run rfl (run_arrayAt hx hu hle) k
end


/-! ### The same under a guard that says yes -/
section
variable {P : Program} {ops : Array Oper} {Q : Exit → Act → World → Prop} {a : Act} {w : World} {rest : List Oper}
theorem L_runG {o : Oper} {v : Value} {w' : World} (hw : Region.wanted o (yielded ops a.tmps) = true) (hr : (execOp a.eval o).run P w = .ok (.value v) w') (k : wpList P ops Q rest (a.put o.dst v) w') : wpList P ops Q (o :: rest) a w :=
  BigFrame.wpList_want hw fun K hK => by unfold Oper.wp; rw [hr]; exact hK _ _ k

theorem W_loadCellG {b i : Nat} {cs : Array Value} {t : TypeId} {fr : Nat × Nat} {dst : Tmp} {x : Operand} {ty ty' : TypeId} {pos : String} {after : Array Edge} {g : Option (Nat × Bool)} {d : TypeDesc} {v : Value}
    (hw : Region.wanted { dst := some dst, op := .load ty x, type := ty', pos := pos, after := after, guard := g } (yielded ops a.tmps) = true)
    (hx : a.eval x = .pointer (some ⟨b, i, none⟩)) (h : w.heap[b]? = some (.cells cs t fr)) (hv : cs[i]? = some v)
    (hu : P.underlying ty = some d) (hd : d.isRow = false)
    (k : wpList P ops Q rest (a.put (some dst) v) w) :
    wpList P ops Q ({ dst := some dst, op := .load ty x, type := ty', pos := pos, after := after, guard := g } :: rest) a w := L_runG hw (run_loadCell h hx hv hu hd) k

theorem W_loadAllG {b : Nat} {cs : Array Value} {t : TypeId} {fr : Nat × Nat} {dst : Tmp} {x : Operand} {ty ty' : TypeId} {pos : String} {after : Array Edge} {g : Option (Nat × Bool)} {d : TypeDesc}
    (hw : Region.wanted { dst := some dst, op := .load ty x, type := ty', pos := pos, after := after, guard := g } (yielded ops a.tmps) = true)
    (hx : a.eval x = .pointer (some ⟨b, 0, none⟩)) (h : w.heap[b]? = some (.cells cs t fr))
    (hu : P.underlying ty = some d) (hd : d.isRow = true) (hi : (P.info? ty).map (·.size) = some cs.size)
    (k : wpList P ops Q rest (a.put (some dst) (.agg cs)) w) :
    wpList P ops Q ({ dst := some dst, op := .load ty x, type := ty', pos := pos, after := after, guard := g } :: rest) a w := L_runG hw (run_loadAll h hx hu hd hi) k
end

/-! ### Mem, its first rows; stores at a place of the list -/
section
variable {w0 w : World} {X : List Nat} {L : List (Nat × Obj)} {p0 p1 p2 p3 p4 p5 : Nat × Obj}
theorem Mem.r0 {b : Nat} {o : Obj} (M : Mem w0 X ((b, o) :: L) w) : w.heap[b]? = some o := M.rows (b, o) (by simp)
theorem Mem.r1 {b : Nat} {o : Obj} (M : Mem w0 X (p0 :: (b, o) :: L) w) : w.heap[b]? = some o := M.rows (b, o) (by simp)
theorem Mem.r2 {b : Nat} {o : Obj} (M : Mem w0 X (p0 :: p1 :: (b, o) :: L) w) : w.heap[b]? = some o := M.rows (b, o) (by simp)
theorem Mem.r3 {b : Nat} {o : Obj} (M : Mem w0 X (p0 :: p1 :: p2 :: (b, o) :: L) w) : w.heap[b]? = some o := M.rows (b, o) (by simp)
theorem Mem.r4 {b : Nat} {o : Obj} (M : Mem w0 X (p0 :: p1 :: p2 :: p3 :: (b, o) :: L) w) : w.heap[b]? = some o := M.rows (b, o) (by simp)
theorem Mem.r5 {b : Nat} {o : Obj} (M : Mem w0 X (p0 :: p1 :: p2 :: p3 :: p4 :: (b, o) :: L) w) : w.heap[b]? = some o := M.rows (b, o) (by simp)
theorem Mem.r6 {b : Nat} {o : Obj} (M : Mem w0 X (p0 :: p1 :: p2 :: p3 :: p4 :: p5 :: (b, o) :: L) w) : w.heap[b]? = some o := M.rows (b, o) (by simp)
theorem Mem.tail {p : Nat × Obj} (M : Mem w0 X (p :: L) w) : Mem w0 X L w :=
  ⟨M.kept, fun q hq => M.rows q (by simp [hq]), by have := M.apart; simp only [List.map_cons, List.pairwise_cons] at this; exact this.2⟩
theorem Mem.sub {L' : List (Nat × Obj)} (M : Mem w0 X L w) (h : L'.Sublist L) : Mem w0 X L' w :=
  ⟨M.kept, fun q hq => M.rows q (h.subset hq), M.apart.sublist (h.map _)⟩
theorem Mem.ne01 {b0 b1 : Nat} {o0 o1 : Obj} (M : Mem w0 X ((b0, o0) :: (b1, o1) :: L) w) : b0 ≠ b1 := by
  have := M.apart; simp only [List.map_cons, List.pairwise_cons] at this; exact this.1 b1 (by simp)
end

section
variable {P : Program} {ops : Array Oper} {Q : Exit → Act → World → Prop} {a : Act} {w w0 : World} {rest : List Oper} {X : List Nat} {L : List (Nat × Obj)} {p0 p1 p2 p3 p4 : Nat × Obj}
  {b o : Nat} {cs vs : Array Value} {t : TypeId} {x y : Operand} {ty ty' : TypeId} {pos : String} {after : Array Edge} {v : Value}

theorem W_storeAll0 (hx : a.eval x = .pointer (some ⟨b, 0, none⟩)) (hy : a.eval y = .agg vs) (M : Mem w0 X ((b, .cells cs t (0, 0)) :: L) w) (hb : b ∈ X ∨ w0.heap.size ≤ b)
    (hi : (P.info? ty).map (·.size) = some cs.size) (hn : vs.size = cs.size) (h1 : ∀ u ∈ vs.toList, u.oneCell' = true)
    (k : ∀ w', Mem w0 X ((b, .cells vs t (0, 0)) :: L) w' → wpList P ops Q rest a w') :
    wpList P ops Q ({ dst := none, op := .store ty x y, type := ty', pos := pos, after := after, guard := none } :: rest) a w := W_storeAll (L1 := []) hx hy M hb hi hn h1 k
theorem W_storeAll1 (hx : a.eval x = .pointer (some ⟨b, 0, none⟩)) (hy : a.eval y = .agg vs) (M : Mem w0 X (p0 :: (b, .cells cs t (0, 0)) :: L) w) (hb : b ∈ X ∨ w0.heap.size ≤ b)
    (hi : (P.info? ty).map (·.size) = some cs.size) (hn : vs.size = cs.size) (h1 : ∀ u ∈ vs.toList, u.oneCell' = true)
    (k : ∀ w', Mem w0 X (p0 :: (b, .cells vs t (0, 0)) :: L) w' → wpList P ops Q rest a w') :
    wpList P ops Q ({ dst := none, op := .store ty x y, type := ty', pos := pos, after := after, guard := none } :: rest) a w := W_storeAll (L1 := [p0]) hx hy M hb hi hn h1 k
theorem W_storeAll2 (hx : a.eval x = .pointer (some ⟨b, 0, none⟩)) (hy : a.eval y = .agg vs) (M : Mem w0 X (p0 :: p1 :: (b, .cells cs t (0, 0)) :: L) w) (hb : b ∈ X ∨ w0.heap.size ≤ b)
    (hi : (P.info? ty).map (·.size) = some cs.size) (hn : vs.size = cs.size) (h1 : ∀ u ∈ vs.toList, u.oneCell' = true)
    (k : ∀ w', Mem w0 X (p0 :: p1 :: (b, .cells vs t (0, 0)) :: L) w' → wpList P ops Q rest a w') :
    wpList P ops Q ({ dst := none, op := .store ty x y, type := ty', pos := pos, after := after, guard := none } :: rest) a w := W_storeAll (L1 := [p0, p1]) hx hy M hb hi hn h1 k
theorem W_storeAll3 (hx : a.eval x = .pointer (some ⟨b, 0, none⟩)) (hy : a.eval y = .agg vs) (M : Mem w0 X (p0 :: p1 :: p2 :: (b, .cells cs t (0, 0)) :: L) w) (hb : b ∈ X ∨ w0.heap.size ≤ b)
    (hi : (P.info? ty).map (·.size) = some cs.size) (hn : vs.size = cs.size) (h1 : ∀ u ∈ vs.toList, u.oneCell' = true)
    (k : ∀ w', Mem w0 X (p0 :: p1 :: p2 :: (b, .cells vs t (0, 0)) :: L) w' → wpList P ops Q rest a w') :
    wpList P ops Q ({ dst := none, op := .store ty x y, type := ty', pos := pos, after := after, guard := none } :: rest) a w := W_storeAll (L1 := [p0, p1, p2]) hx hy M hb hi hn h1 k
theorem W_storeCell0 (hx : a.eval x = .pointer (some ⟨b, o, none⟩)) (hy : a.eval y = v) (M : Mem w0 X ((b, .cells cs t (0, 0)) :: L) w) (hb : b ∈ X ∨ w0.heap.size ≤ b) (h1 : v.oneCell' = true)
    (hi : (P.info? ty).map (·.size) = some 1) (hle : o < cs.size)
    (k : ∀ w', Mem w0 X ((b, .cells (cs.setIfInBounds o v) t (0, 0)) :: L) w' → wpList P ops Q rest a w') :
    wpList P ops Q ({ dst := none, op := .store ty x y, type := ty', pos := pos, after := after, guard := none } :: rest) a w := W_storeCell (L1 := []) hx hy M hb h1 hi hle k
theorem W_storeCell1 (hx : a.eval x = .pointer (some ⟨b, o, none⟩)) (hy : a.eval y = v) (M : Mem w0 X (p0 :: (b, .cells cs t (0, 0)) :: L) w) (hb : b ∈ X ∨ w0.heap.size ≤ b) (h1 : v.oneCell' = true)
    (hi : (P.info? ty).map (·.size) = some 1) (hle : o < cs.size)
    (k : ∀ w', Mem w0 X (p0 :: (b, .cells (cs.setIfInBounds o v) t (0, 0)) :: L) w' → wpList P ops Q rest a w') :
    wpList P ops Q ({ dst := none, op := .store ty x y, type := ty', pos := pos, after := after, guard := none } :: rest) a w := W_storeCell (L1 := [p0]) hx hy M hb h1 hi hle k
theorem W_storeCell2 (hx : a.eval x = .pointer (some ⟨b, o, none⟩)) (hy : a.eval y = v) (M : Mem w0 X (p0 :: p1 :: (b, .cells cs t (0, 0)) :: L) w) (hb : b ∈ X ∨ w0.heap.size ≤ b) (h1 : v.oneCell' = true)
    (hi : (P.info? ty).map (·.size) = some 1) (hle : o < cs.size)
    (k : ∀ w', Mem w0 X (p0 :: p1 :: (b, .cells (cs.setIfInBounds o v) t (0, 0)) :: L) w' → wpList P ops Q rest a w') :
    wpList P ops Q ({ dst := none, op := .store ty x y, type := ty', pos := pos, after := after, guard := none } :: rest) a w := W_storeCell (L1 := [p0, p1]) hx hy M hb h1 hi hle k
theorem W_storeCell3 (hx : a.eval x = .pointer (some ⟨b, o, none⟩)) (hy : a.eval y = v) (M : Mem w0 X (p0 :: p1 :: p2 :: (b, .cells cs t (0, 0)) :: L) w) (hb : b ∈ X ∨ w0.heap.size ≤ b) (h1 : v.oneCell' = true)
    (hi : (P.info? ty).map (·.size) = some 1) (hle : o < cs.size)
    (k : ∀ w', Mem w0 X (p0 :: p1 :: p2 :: (b, .cells (cs.setIfInBounds o v) t (0, 0)) :: L) w' → wpList P ops Q rest a w') :
    wpList P ops Q ({ dst := none, op := .store ty x y, type := ty', pos := pos, after := after, guard := none } :: rest) a w := W_storeCell (L1 := [p0, p1, p2]) hx hy M hb h1 hi hle k
end

/-! ### A region that draws its order, whose operations read, and whose callees turn nothing that was there -/
section
variable {P : Program} {ops : Array Oper} {a : Act} {rest : List Oper} {C : World → Prop} {F : Act → Prop}

theorem D_region {Q : Exit → Act → World → Prop} {w w0 : World} {X : List Nat} {L : List (Nat × Obj)} {id : Nat} {l : List Oper} (M : Mem w0 X L w) (hm : P.follows .mixedOrders = true) (hB : Region.lexB .any l.toArray = true)
    (h : wpQuiet P l.toArray (Mem w0 X L) (fun a' => ∀ w', Mem w0 X L w' → Q .normal a' w') l a) : (Code.region id l.toArray true).wp P Q a w :=
  wp_region_quiet hm hB M.drew (by simpa using h)

theorem D_run {o : Oper} {v : Value} (hw : Region.wanted o (yielded ops a.tmps) = true) (hr : ∀ w, C w → (execOp a.eval o).run P w = .ok (.value v) w) (k : wpQuiet P ops C F rest (a.put o.dst v)) : wpQuiet P ops C F (o :: rest) a := by
  simp only [wpQuiet, hw, if_true]
  exact ⟨v, fun w hC => by unfold Oper.quietAt; rw [hr w hC]; exact ⟨rfl, rfl⟩, k⟩

theorem D_no {o : Oper} (hw : Region.wanted o (yielded ops a.tmps) = false) (k : wpQuiet P ops C F rest (a.put o.dst undef)) : wpQuiet P ops C F (o :: rest) a := by
  simp only [wpQuiet, hw]
  exact k

theorem D_call {dst : Option Tmp} {f : FuncId} {xs : List Operand} {ats : Array TypeId} {ty : TypeId} {pos : String} {after : Array Edge} {g : Option (Nat × Bool)} {fn : Func} {v : Value} {args : List Value}
    (hw : Region.wanted { dst := dst, op := .call { callee := .value (.func f), args := xs.toArray, argTypes := ats }, type := ty, pos := pos, after := after, guard := g } (yielded ops a.tmps) = true)
    (hfn : P.funcs[f]? = some fn) (hn : (fn.name == "runtime.NumGoroutine") = false) (hb : fn.body.isNone = false) (hargs : xs.map a.eval = args)
    (hc : ∀ w, C w → Calls P f args.toArray w fun e w' => e = .returned v ∧ C w') (k : wpQuiet P ops C F rest (a.put dst v)) :
    wpQuiet P ops C F ({ dst := dst, op := .call { callee := .value (.func f), args := xs.toArray, argTypes := ats }, type := ty, pos := pos, after := after, guard := g } :: rest) a := by
  simp only [wpQuiet, hw, if_true]
  refine ⟨v, fun w hC => ?_, k⟩
  unfold Oper.quietAt
  have hr : (execOp a.eval { dst := dst, op := .call { callee := .value (.func f), args := xs.toArray, argTypes := ats }, type := ty, pos := pos, after := after, guard := g }).run P w = .ok (.enter f args.toArray) w := by
    rw [execOp_call_go]
    have hn' : ¬ fn.name = "runtime.NumGoroutine" := by simpa using hn
    have hb' : ¬ fn.body = none := by intro h; simp [h] at hb
    simp [callFunc, Go.program, Sem.run, hfn, hn', hb', hargs]
  rw [hr]
  exact ⟨rfl, hc w hC⟩
end


/-! ### Reslicing -/
section
variable {P : Program} {ops : Array Oper} {Q : Exit → Act → World → Prop} {a : Act} {w : World} {rest : List Oper}

/-- A bound of a slice expression: not given, or a number. -/
def Bd (a : Act) (op : Option Operand) (n d : Nat) : Prop := (op = none ∧ n = d) ∨ ∃ x k i, op = some x ∧ a.eval x = .int k i ∧ i = (n : Nat)

theorem run_sliceBound {w : World} {v : Value} {k : IntKind} {i : Int} {n y : Nat} (code : BoundsCode) (hv : v = .int k i) (hi : i = (n : Nat)) (hn : n ≤ y) : (Instr.sliceBound v y code).run P w = .ok n w := by
  subst hv hi
  have : (n : Int) ≤ (y : Int) := by omega
  simp [Instr.sliceBound, asIntOf, hn]

/-- 'x[lo:hi:max]' of an array that lies in memory. -/
theorem run_sliceArr {w : World} {b o l h m N : Nat} {t e ty' : TypeId} {dst : Option Tmp} {x : Operand} {lo hi mx : Option Operand} {pos : String} {after : Array Edge} {g : Option (Nat × Bool)}
    (hx : a.eval x = .pointer (some ⟨b, o, none⟩)) (hu : P.underlying t = some (.array N e)) (hs : (P.info? e).map (·.size) = some 1)
    (hl : Bd a lo l 0) (hh : Bd a hi h N) (hm : Bd a mx m N) (hmx : mx = none ∨ hi.isSome = true) (h1 : l ≤ h) (h2 : h ≤ m) (h3 : m ≤ N) (h4 : l < m ∨ l = 0) :
    (execOp a.eval { dst := dst, op := .slice t x lo hi mx, type := ty', pos := pos, after := after, guard := g }).run P w = .ok (.value (.slice (some ⟨b, o + l, none⟩) (h - l) (m - l))) w := by
  have hsz : (sizeOf e).run P w = .ok 1 w := by
    cases hq : P.info? e with
    | none => simp [hq] at hs
    | some i => simp [sizeOf, typeInfo, hq] at hs ⊢; exact hs
  have hbounds : (Instr.sliceBounds false N N (lo.map a.eval) (hi.map a.eval) (mx.map a.eval)).run P w = .ok (l, h, m) w := by
    unfold Instr.sliceBounds
    rcases hm with ⟨rfl, rfl⟩ | ⟨xm, km, im, rfl, hm1, hm2⟩
    · rcases hh with ⟨rfl, rfl⟩ | ⟨xh, kh, ih, rfl, hh1, hh2⟩
      · rcases hl with ⟨rfl, rfl⟩ | ⟨xl, kl, il, rfl, hl1, hl2⟩
        · simp
        · simp [run_sliceBound _ hl1 hl2 h1]
      · rcases hl with ⟨rfl, rfl⟩ | ⟨xl, kl, il, rfl, hl1, hl2⟩
        · simp [run_sliceBound _ hh1 hh2 h2]
        · simp [run_sliceBound _ hh1 hh2 h2, run_sliceBound _ hl1 hl2 h1]
    · rcases hh with ⟨rfl, rfl⟩ | ⟨xh, kh, ih, rfl, hh1, hh2⟩
      · simp at hmx
      · rcases hl with ⟨rfl, rfl⟩ | ⟨xl, kl, il, rfl, hl1, hl2⟩
        · simp [run_sliceBound _ hm1 hm2 h3, run_sliceBound _ hh1 hh2 h2]
        · simp [run_sliceBound _ hm1 hm2 h3, run_sliceBound _ hh1 hh2 h2, run_sliceBound _ hl1 hl2 h1]
  have haddr : (if m = l then (⟨b, o, none⟩ : Addr) else (⟨b, o, none⟩ : Addr).add l) = ⟨b, o + l, none⟩ := by
    rcases h4 with h4 | h4
    · rw [if_neg (by omega), Addr.add_mid]
    · subst h4; split <;> simp [Addr.add]
  simp [execOp, hx, Instr.sliceAt, Instr.sureAddr, Sem.run_bind, run_underlying hu, hbounds, hsz, haddr]

theorem W_sliceArr {w : World} {b o l h m N : Nat} {t e ty' : TypeId} {dst : Tmp} {x : Operand} {lo hi mx : Option Operand} {pos : String} {after : Array Edge}
    (hx : a.eval x = .pointer (some ⟨b, o, none⟩)) (hu : P.underlying t = some (.array N e)) (hs : (P.info? e).map (·.size) = some 1)
    (hl : Bd a lo l 0) (hh : Bd a hi h N) (hm : Bd a mx m N) (hmx : mx = none ∨ hi.isSome = true) (h1 : l ≤ h) (h2 : h ≤ m) (h3 : m ≤ N) (h4 : l < m ∨ l = 0)
    (k : wpList P ops Q rest (a.put (some dst) (.slice (some ⟨b, o + l, none⟩) (h - l) (m - l))) w) :
    wpList P ops Q ({ dst := some dst, op := .slice t x lo hi mx, type := ty', pos := pos, after := after, guard := none } :: rest) a w := L_run rfl (run_sliceArr hx hu hs hl hh hm hmx h1 h2 h3 h4) k

/-- 'x[:n:n]' of a slice. -/
theorem run_slice3 {p : Option Addr} {len cap n : Nat} {i j : Int} {ki kj : IntKind} {e t ty' : TypeId} {dst : Option Tmp} {x h m : Operand} {pos : String} {after : Array Edge} {g : Option (Nat × Bool)}
    (hx : a.eval x = .slice p len cap) (hh : a.eval h = .int ki i) (hm : a.eval m = .int kj j) (hi : i = (n : Nat)) (hj : j = (n : Nat)) (hu : P.underlying t = some (.slice e)) (hs : ∃ k, (P.info? e).map (·.size) = some k) (hn : n ≤ cap) :
    (execOp a.eval { dst := dst, op := .slice t x none (some h) (some m), type := ty', pos := pos, after := after, guard := g }).run P w = .ok (.value (.slice p n n)) w := by
  subst hi hj
  obtain ⟨k, hk⟩ := hs
  have hsz : (sizeOf e).run P w = .ok k w := by
    cases hq : P.info? e with
    | none => simp [hq] at hk
    | some i => simp [sizeOf, typeInfo, hq] at hk ⊢; exact hk
  have hadd : (fun q : Addr => q.add 0) = id := by funext q; simp [Addr.add]
  have hn' : (n : Int) ≤ (cap : Int) := by omega
  simp [execOp, hx, hh, hm, Instr.sliceAt, Instr.slice, Instr.sliceBounds, Instr.sliceBound, asIntOf, Sem.run_bind, run_underlying hu, hsz, hn, hadd]

theorem W_slice3 {p : Option Addr} {len cap n : Nat} {i j : Int} {ki kj : IntKind} {e t ty' : TypeId} {dst : Tmp} {x h m : Operand} {pos : String} {after : Array Edge}
    (hx : a.eval x = .slice p len cap) (hh : a.eval h = .int ki i) (hm : a.eval m = .int kj j) (hi : i = (n : Nat)) (hj : j = (n : Nat)) (hu : P.underlying t = some (.slice e)) (hs : ∃ k, (P.info? e).map (·.size) = some k) (hn : n ≤ cap)
    (k : wpList P ops Q rest (a.put (some dst) (.slice p n n)) w) :
    wpList P ops Q ({ dst := some dst, op := .slice t x none (some h) (some m), type := ty', pos := pos, after := after, guard := none } :: rest) a w := L_run rfl (run_slice3 hx hh hm hi hj hu hs hn) k
end

/-! ### Results that lie in memory -/
section
variable {P : Program} {fn : Func} {R : Ending → World → Prop} {a : Act} {w : World}

theorem ret_cell1 {t : Tmp} {ty tt : TypeId} {b : Nat} {cs : Array Value} {fr : Nat × Nat} {d : TypeDesc} (h : fn.results = #[.cell t ty]) (hp : a.tmps.getD t undef = .pointer (some ⟨b, 0, none⟩))
    (hr : w.heap[b]? = some (.cells cs tt fr)) (hu : P.underlying ty = some d) (hrow : d.isRow = true) (hi : (P.info? ty).map (·.size) = some cs.size) (hd : a.defers = []) (k : R (.returned (.agg cs)) w) : bodyPost P fn R .ret a w := by
  refine bodyPost_ret ?_ hd k
  have := run_loadVar_row (P := P) hr hu hrow hi (Nat.le_of_eq (Nat.zero_add _))
  simp at this
  rw [Array.getD_eq_getD_getElem?] at hp
  simp only [results, h]
  simp [hp, asAddr, this]

theorem ret_cell2 {t t' : Tmp} {ty tt ty' tt' : TypeId} {b b' : Nat} {cs cs' : Array Value} {fr fr' : Nat × Nat} {d d' : TypeDesc} (h : fn.results = #[.cell t ty, .cell t' ty'])
    (hp : a.tmps.getD t undef = .pointer (some ⟨b, 0, none⟩)) (hr : w.heap[b]? = some (.cells cs tt fr)) (hu : P.underlying ty = some d) (hrow : d.isRow = true) (hi : (P.info? ty).map (·.size) = some cs.size)
    (hp' : a.tmps.getD t' undef = .pointer (some ⟨b', 0, none⟩)) (hr' : w.heap[b']? = some (.cells cs' tt' fr')) (hu' : P.underlying ty' = some d') (hrow' : d'.isRow = true) (hi' : (P.info? ty').map (·.size) = some cs'.size)
    (hd : a.defers = []) (k : R (.returned (.tuple #[.agg cs, .agg cs'])) w) : bodyPost P fn R .ret a w := by
  refine bodyPost_ret ?_ hd k
  have := run_loadVar_row (P := P) hr hu hrow hi (Nat.le_of_eq (Nat.zero_add _))
  simp at this
  have this' := run_loadVar_row (P := P) hr' hu' hrow' hi' (Nat.le_of_eq (Nat.zero_add _))
  simp at this'
  rw [Array.getD_eq_getD_getElem?] at hp hp'
  simp only [results, h]
  simp [hp, hp', asAddr, this, this']

theorem ret_cell3 {t t' t'' : Tmp} {ty tt ty' tt' ty'' tt'' : TypeId} {b b' b'' : Nat} {cs cs' cs'' : Array Value} {fr fr' fr'' : Nat × Nat} {d d' d'' : TypeDesc} (h : fn.results = #[.cell t ty, .cell t' ty', .cell t'' ty''])
    (hp : a.tmps.getD t undef = .pointer (some ⟨b, 0, none⟩)) (hr : w.heap[b]? = some (.cells cs tt fr)) (hu : P.underlying ty = some d) (hrow : d.isRow = true) (hi : (P.info? ty).map (·.size) = some cs.size)
    (hp' : a.tmps.getD t' undef = .pointer (some ⟨b', 0, none⟩)) (hr' : w.heap[b']? = some (.cells cs' tt' fr')) (hu' : P.underlying ty' = some d') (hrow' : d'.isRow = true) (hi' : (P.info? ty').map (·.size) = some cs'.size)
    (hp'' : a.tmps.getD t'' undef = .pointer (some ⟨b'', 0, none⟩)) (hr'' : w.heap[b'']? = some (.cells cs'' tt'' fr'')) (hu'' : P.underlying ty'' = some d'') (hrow'' : d''.isRow = true) (hi'' : (P.info? ty'').map (·.size) = some cs''.size)
    (hd : a.defers = []) (k : R (.returned (.tuple #[.agg cs, .agg cs', .agg cs''])) w) : bodyPost P fn R .ret a w := by
  refine bodyPost_ret ?_ hd k
  have := run_loadVar_row (P := P) hr hu hrow hi (Nat.le_of_eq (Nat.zero_add _))
  simp at this
  have this' := run_loadVar_row (P := P) hr' hu' hrow' hi' (Nat.le_of_eq (Nat.zero_add _))
  simp at this'
  have this'' := run_loadVar_row (P := P) hr'' hu'' hrow'' hi'' (Nat.le_of_eq (Nat.zero_add _))
  simp at this''
  rw [Array.getD_eq_getD_getElem?] at hp hp' hp''
  simp only [results, h]
  simp [hp, hp', hp'', asAddr, this, this', this'']
end

end Go.Own

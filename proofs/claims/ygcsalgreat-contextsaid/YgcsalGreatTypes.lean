/-
  The seat's types: sizes and zero values, closed facts of the loaded program; the spelling of rows of numbers.
-/
import Derived.Test.YgcsalGreatRows
import Derived.Test.YgcsalGreatBase
set_option linter.unusedSimpArgs false
namespace Go.Own
abbrev n8 (x : Nat) : Value := .int .u8 (x : Int)
abbrev n64 (x : Nat) : Value := .int .u64 (x : Int)
abbrev R8 (t : TypeId) (l : List Nat) : Obj := .cells (l.map n8).toArray t (0, 0)
abbrev R64 (t : TypeId) (l : List Nat) : Obj := .cells (l.map n64).toArray t (0, 0)
abbrev A8 (l : List Nat) : Value := .agg (l.map n8).toArray
abbrev A64 (l : List Nat) : Value := .agg (l.map n64).toArray
theorem one8 (l : List Nat) : ∀ u ∈ (l.map n8).toArray.toList, u.oneCell' = true := by intro u hu; simp at hu; obtain ⟨x, _, rfl⟩ := hu; rfl
theorem one64 (l : List Nat) : ∀ u ∈ (l.map n64).toArray.toList, u.oneCell' = true := by intro u hu; simp at hu; obtain ⟨x, _, rfl⟩ := hu; rfl
theorem get_map {f : Nat → Value} {l : List Nat} {i x : Nat} (h : l[i]? = some x) : (l.map f).toArray[i]? = some (f x) := by simp [h]
theorem set_map {f : Nat → Value} (l : List Nat) (i x : Nat) : (l.map f).toArray.setIfInBounds i (f x) = ((l.set i x).map f).toArray := by
  simp
theorem extract_map {f : Nat → Value} (l : List Nat) (o n : Nat) : (l.map f).toArray.extract o (o + n) = (((l.drop o).take n).map f).toArray := by
  simp [List.extract_toArray, List.map_take, List.map_drop]

/-! ### A store of a number into a row of numbers, at a place of the list -/
section
variable {P : Program} {ops : Array Oper} {Q : Exit → Act → World → Prop} {a : Act} {w w0 : World} {rest : List Oper} {X : List Nat} {L : List (Nat × Obj)} {p0 p1 p2 p3 p4 : Nat × Obj}
  {b o m : Nat} {l : List Nat} {n : Int} {t : TypeId} {x y : Operand} {ty ty' : TypeId} {pos : String} {after : Array Edge}
theorem W_st8_0 (hx : a.eval x = .pointer (some ⟨b, o, none⟩)) (hy : a.eval y = .int .u8 n) (hv : n = (m : Nat)) (M : Mem w0 X ((b, R8 t l) :: L) w) (hb : b ∈ X ∨ w0.heap.size ≤ b)
    (hi : (P.info? ty).map (·.size) = some 1) (hle : o < l.length) (k : ∀ w', Mem w0 X ((b, R8 t (l.set o m)) :: L) w' → wpList P ops Q rest a w') :
    wpList P ops Q ({ dst := none, op := .store ty x y, type := ty', pos := pos, after := after, guard := none } :: rest) a w :=
  W_storeCell (L1 := []) hx hy M hb rfl hi (by simpa using hle) (fun w' M' => k w' (by subst hv; rw [set_map] at M'; exact M'))
theorem W_st8_1 (hx : a.eval x = .pointer (some ⟨b, o, none⟩)) (hy : a.eval y = .int .u8 n) (hv : n = (m : Nat)) (M : Mem w0 X (p0 :: (b, R8 t l) :: L) w) (hb : b ∈ X ∨ w0.heap.size ≤ b)
    (hi : (P.info? ty).map (·.size) = some 1) (hle : o < l.length) (k : ∀ w', Mem w0 X (p0 :: (b, R8 t (l.set o m)) :: L) w' → wpList P ops Q rest a w') :
    wpList P ops Q ({ dst := none, op := .store ty x y, type := ty', pos := pos, after := after, guard := none } :: rest) a w :=
  W_storeCell (L1 := [p0]) hx hy M hb rfl hi (by simpa using hle) (fun w' M' => k w' (by subst hv; rw [set_map] at M'; exact M'))
theorem W_st8_2 (hx : a.eval x = .pointer (some ⟨b, o, none⟩)) (hy : a.eval y = .int .u8 n) (hv : n = (m : Nat)) (M : Mem w0 X (p0 :: p1 :: (b, R8 t l) :: L) w) (hb : b ∈ X ∨ w0.heap.size ≤ b)
    (hi : (P.info? ty).map (·.size) = some 1) (hle : o < l.length) (k : ∀ w', Mem w0 X (p0 :: p1 :: (b, R8 t (l.set o m)) :: L) w' → wpList P ops Q rest a w') :
    wpList P ops Q ({ dst := none, op := .store ty x y, type := ty', pos := pos, after := after, guard := none } :: rest) a w :=
  W_storeCell (L1 := [p0, p1]) hx hy M hb rfl hi (by simpa using hle) (fun w' M' => k w' (by subst hv; rw [set_map] at M'; exact M'))
theorem W_st8_3 (hx : a.eval x = .pointer (some ⟨b, o, none⟩)) (hy : a.eval y = .int .u8 n) (hv : n = (m : Nat)) (M : Mem w0 X (p0 :: p1 :: p2 :: (b, R8 t l) :: L) w) (hb : b ∈ X ∨ w0.heap.size ≤ b)
    (hi : (P.info? ty).map (·.size) = some 1) (hle : o < l.length) (k : ∀ w', Mem w0 X (p0 :: p1 :: p2 :: (b, R8 t (l.set o m)) :: L) w' → wpList P ops Q rest a w') :
    wpList P ops Q ({ dst := none, op := .store ty x y, type := ty', pos := pos, after := after, guard := none } :: rest) a w :=
  W_storeCell (L1 := [p0, p1, p2]) hx hy M hb rfl hi (by simpa using hle) (fun w' M' => k w' (by subst hv; rw [set_map] at M'; exact M'))
theorem W_st8_4 (hx : a.eval x = .pointer (some ⟨b, o, none⟩)) (hy : a.eval y = .int .u8 n) (hv : n = (m : Nat)) (M : Mem w0 X (p0 :: p1 :: p2 :: p3 :: (b, R8 t l) :: L) w) (hb : b ∈ X ∨ w0.heap.size ≤ b)
    (hi : (P.info? ty).map (·.size) = some 1) (hle : o < l.length) (k : ∀ w', Mem w0 X (p0 :: p1 :: p2 :: p3 :: (b, R8 t (l.set o m)) :: L) w' → wpList P ops Q rest a w') :
    wpList P ops Q ({ dst := none, op := .store ty x y, type := ty', pos := pos, after := after, guard := none } :: rest) a w :=
  W_storeCell (L1 := [p0, p1, p2, p3]) hx hy M hb rfl hi (by simpa using hle) (fun w' M' => k w' (by subst hv; rw [set_map] at M'; exact M'))
theorem W_st64_0 (hx : a.eval x = .pointer (some ⟨b, o, none⟩)) (hy : a.eval y = .int .u64 n) (hv : n = (m : Nat)) (M : Mem w0 X ((b, R64 t l) :: L) w) (hb : b ∈ X ∨ w0.heap.size ≤ b)
    (hi : (P.info? ty).map (·.size) = some 1) (hle : o < l.length) (k : ∀ w', Mem w0 X ((b, R64 t (l.set o m)) :: L) w' → wpList P ops Q rest a w') :
    wpList P ops Q ({ dst := none, op := .store ty x y, type := ty', pos := pos, after := after, guard := none } :: rest) a w :=
  W_storeCell (L1 := []) hx hy M hb rfl hi (by simpa using hle) (fun w' M' => k w' (by subst hv; rw [set_map] at M'; exact M'))
theorem W_st64_1 (hx : a.eval x = .pointer (some ⟨b, o, none⟩)) (hy : a.eval y = .int .u64 n) (hv : n = (m : Nat)) (M : Mem w0 X (p0 :: (b, R64 t l) :: L) w) (hb : b ∈ X ∨ w0.heap.size ≤ b)
    (hi : (P.info? ty).map (·.size) = some 1) (hle : o < l.length) (k : ∀ w', Mem w0 X (p0 :: (b, R64 t (l.set o m)) :: L) w' → wpList P ops Q rest a w') :
    wpList P ops Q ({ dst := none, op := .store ty x y, type := ty', pos := pos, after := after, guard := none } :: rest) a w :=
  W_storeCell (L1 := [p0]) hx hy M hb rfl hi (by simpa using hle) (fun w' M' => k w' (by subst hv; rw [set_map] at M'; exact M'))
theorem W_st64_2 (hx : a.eval x = .pointer (some ⟨b, o, none⟩)) (hy : a.eval y = .int .u64 n) (hv : n = (m : Nat)) (M : Mem w0 X (p0 :: p1 :: (b, R64 t l) :: L) w) (hb : b ∈ X ∨ w0.heap.size ≤ b)
    (hi : (P.info? ty).map (·.size) = some 1) (hle : o < l.length) (k : ∀ w', Mem w0 X (p0 :: p1 :: (b, R64 t (l.set o m)) :: L) w' → wpList P ops Q rest a w') :
    wpList P ops Q ({ dst := none, op := .store ty x y, type := ty', pos := pos, after := after, guard := none } :: rest) a w :=
  W_storeCell (L1 := [p0, p1]) hx hy M hb rfl hi (by simpa using hle) (fun w' M' => k w' (by subst hv; rw [set_map] at M'; exact M'))
theorem W_st64_3 (hx : a.eval x = .pointer (some ⟨b, o, none⟩)) (hy : a.eval y = .int .u64 n) (hv : n = (m : Nat)) (M : Mem w0 X (p0 :: p1 :: p2 :: (b, R64 t l) :: L) w) (hb : b ∈ X ∨ w0.heap.size ≤ b)
    (hi : (P.info? ty).map (·.size) = some 1) (hle : o < l.length) (k : ∀ w', Mem w0 X (p0 :: p1 :: p2 :: (b, R64 t (l.set o m)) :: L) w' → wpList P ops Q rest a w') :
    wpList P ops Q ({ dst := none, op := .store ty x y, type := ty', pos := pos, after := after, guard := none } :: rest) a w :=
  W_storeCell (L1 := [p0, p1, p2]) hx hy M hb rfl hi (by simpa using hle) (fun w' M' => k w' (by subst hv; rw [set_map] at M'; exact M'))
theorem W_st64_4 (hx : a.eval x = .pointer (some ⟨b, o, none⟩)) (hy : a.eval y = .int .u64 n) (hv : n = (m : Nat)) (M : Mem w0 X (p0 :: p1 :: p2 :: p3 :: (b, R64 t l) :: L) w) (hb : b ∈ X ∨ w0.heap.size ≤ b)
    (hi : (P.info? ty).map (·.size) = some 1) (hle : o < l.length) (k : ∀ w', Mem w0 X (p0 :: p1 :: p2 :: p3 :: (b, R64 t (l.set o m)) :: L) w' → wpList P ops Q rest a w') :
    wpList P ops Q ({ dst := none, op := .store ty x y, type := ty', pos := pos, after := after, guard := none } :: rest) a w :=
  W_storeCell (L1 := [p0, p1, p2, p3]) hx hy M hb rfl hi (by simpa using hle) (fun w' M' => k w' (by subst hv; rw [set_map] at M'; exact M'))
end
/-! ### make, copy, clear -/
section
variable {P : Program} {ops : Array Oper} {Q : Exit → Act → World → Prop} {a : Act} {w w0 : World} {rest : List Oper} {X : List Nat} {L : List (Nat × Obj)}

theorem splice_map {f : Nat → Value} (l m : List Nat) (o : Nat) (h : o + m.length ≤ l.length) : splice (l.map f).toArray o (m.map f) = ((l.take o ++ m ++ l.drop (o + m.length)).map f).toArray := by
  apply Array.ext_getElem?
  intro k
  rw [splice_get _ _ _ _ (by simpa using h)]
  simp only [List.length_map, List.getElem?_toArray, List.getElem?_map]
  by_cases h1 : o ≤ k ∧ k < o + m.length
  · rw [if_pos h1, List.append_assoc, List.getElem?_append_right (by simp; omega), List.getElem?_append_left (by simp; omega)]
    simp; rw [Nat.min_eq_left (by omega)]
  · rw [if_neg h1]
    by_cases h2 : k < o
    · rw [List.append_assoc, List.getElem?_append_left (by simp; omega), List.getElem?_take_of_lt h2]
    · rw [List.getElem?_append_right (by simp; omega), List.getElem?_drop]
      congr 2
      simp; omega

/-- 'make(Nat, n)'. -/
theorem run_make8 {w : World} {l c : Operand} {t e ty' : TypeId} {i j : Int} {ki kj : IntKind} {n : Nat} {dst : Option Tmp} {pos : String} {after : Array Edge} {g : Option (Nat × Bool)}
    (hl : a.eval l = .int ki i) (hc : a.eval c = .int kj j) (hi : i = (n : Nat)) (hj : j = (n : Nat)) (hn : n ≤ 1000000) (hu : P.underlying t = some (.slice e))
    (he : (P.info? e).map (fun i => (i.zero, i.size, i.bytes)) = some (some (.int .u8 0), 1, 1)) :
    (execOp a.eval { dst := dst, op := .makeSlice t l c, type := ty', pos := pos, after := after, guard := g }).run P w =
      .ok (.value (.slice (some ⟨w.heap.size, 0, none⟩) n n)) { w with heap := w.heap.push (R8 e (List.replicate n 0)) } := by
  subst hi hj
  cases hq : P.info? e with
  | none => simp [hq] at he
  | some inf =>
    simp only [hq, Option.map_some, Option.some.injEq, Prod.mk.injEq] at he
    obtain ⟨h1, h2, h3⟩ := he
    have hw : IntKind.i64.wrap (n : Int) = (n : Int) := by simp [IntKind.wrap, IntKind.bits, IntKind.signed]; omega
    have hnt : ¬ ((n : Int) < 0) := by omega
    have hb : ¬ (281474976710656 < (n : Int)) := by omega
    have hrow : Array.map (fun x => [Value.int IntKind.u8 0][x % 1]?.getD default) (Array.range n) = ((List.replicate n 0).map n8).toArray := by
      apply Array.ext_getElem?
      intro k
      by_cases hk : k < n
      · simp [hk, Nat.mod_one]
      · simp [hk]
    have haskroom : ∀ k, (askRoom k).run P w = .ok () w := by intro k; unfold askRoom; split <;> rfl
    by_cases hz : n = 0
    · subst hz
      have hw0 : IntKind.i64.wrap 0 = 0 := by decide
      simp [execOp, hl, hc, Instr.makeSlice, asInt, asIntOf, Sem.run_bind, run_underlying hu, typeInfo, hq, h1, h2, h3, hw0, sizeOf, haskroom, newRow, newObj, Sem.run, zeroValue]
      have : Array.map (fun _ : Nat => (default : Value)) (Array.range 0) = #[] := Array.eq_empty_of_size_eq_zero (by simp)
      rw [this]
      rfl
    · simp [execOp, hl, hc, Instr.makeSlice, asInt, asIntOf, Sem.run_bind, run_underlying hu, typeInfo, hq, h1, h2, h3, hw, hnt, hb, sizeOf, haskroom, newRow, newObj, Sem.run, zeroValue, hz, Value.cells]
      rw [hrow]

theorem W_make8 {l c : Operand} {t e ty' : TypeId} {i j : Int} {ki kj : IntKind} {n : Nat} {dst : Tmp} {pos : String} {after : Array Edge} (M : Mem w0 X L w)
    (hl : a.eval l = .int ki i) (hc : a.eval c = .int kj j) (hi : i = (n : Nat)) (hj : j = (n : Nat)) (hn : n ≤ 1000000) (hu : P.underlying t = some (.slice e))
    (he : (P.info? e).map (fun i => (i.zero, i.size, i.bytes)) = some (some (.int .u8 0), 1, 1))
    (k : ∀ b w', w0.heap.size ≤ b → Mem w0 X ((b, R8 e (List.replicate n 0)) :: L) w' → wpList P ops Q rest (a.put (some dst) (.slice (some ⟨b, 0, none⟩) n n)) w') :
    wpList P ops Q ({ dst := some dst, op := .makeSlice t l c, type := ty', pos := pos, after := after, guard := none } :: rest) a w := by
  have ⟨h1, h2⟩ := M.alloc (R8 e (List.replicate n 0))
  exact L_run rfl (run_make8 hl hc hi hj hn hu he) (k _ _ h1 h2)

/-- 'copy' between two rows of numbers, both from their heads. -/
theorem run_copyMap {f : Nat → Value} (hf : ∀ x, (f x).oneCell' = true) {w : World} {x y : Operand} {tx ty e ty' : TypeId} {b b' dLen dCap sLen sCap : Nat} {t t' : TypeId} {fr : Nat × Nat} {l s : List Nat} {dst : Option Tmp} {pos : String} {after : Array Edge} {g : Option (Nat × Bool)}
    (hx : a.eval x = .slice (some ⟨b, 0, none⟩) dLen dCap) (hy : a.eval y = .slice (some ⟨b', 0, none⟩) sLen sCap) (hu : P.underlying tx = some (.slice e)) (hs : (P.info? e).map (·.size) = some 1)
    (hr : w.heap[b]? = some (.cells (l.map f).toArray t (0, 0))) (hr' : w.heap[b']? = some (.cells (s.map f).toArray t' fr)) (h1 : min sLen dLen ≤ l.length) (h2 : min sLen dLen ≤ s.length) :
    (execOp a.eval { dst := dst, op := .call { callee := .builtin .copy, args := #[x, y], argTypes := #[tx, ty] }, type := ty', pos := pos, after := after, guard := g }).run P w =
      .ok (.value (.int .i64 (min sLen dLen : Nat))) (putRow w b (.cells ((s.take (min sLen dLen) ++ l.drop (min sLen dLen)).map f).toArray t (0, 0))) := by
  have hlen : ((s.take (min sLen dLen)).map f).length = min sLen dLen := by simp; omega
  have hload := run_loadCells_list (P := P) w ⟨b', 0, none⟩ ((s.take (min sLen dLen)).map f) (fun j v hv => by
    rw [Addr.add_mid, Nat.zero_add, cell_of_row hr']
    have hj : j < min sLen dLen := by
      have := (List.getElem?_eq_some_iff.1 hv).1
      omega
    simp only [List.getElem?_map, List.getElem?_take_of_lt hj] at hv
    simpa using hv)
  rw [hlen] at hload
  have hstore := run_storeCells_row (P := P) ((s.take (min sLen dLen)).map f) (fun v hv => by obtain ⟨x, _, rfl⟩ := List.mem_map.1 hv; exact hf x) w b 0 0 (l.map f).toArray t hr (by rw [hlen]; simpa using h1)
  rw [Nat.add_zero, splice_map _ _ _ (by simpa using (by omega : min (min sLen dLen) s.length ≤ l.length))] at hstore
  simp only [List.take_zero, List.nil_append, Nat.zero_add, List.length_take, Nat.min_eq_left h2] at hstore
  rw [BigFrame.execOp_builtin, BigFrame.builtin_copy]
  cases hq : P.info? e with
  | none => simp [hq] at hs
  | some i =>
    have hsz : i.size = 1 := by simpa [hq] using hs
    simp [hx, hy, Builtin.copy_, run_underlying hu, Builtin.lenOf, Builtin.firstCells, sizeOf, typeInfo, hq, hsz, hload, hstore, goInt]
    rw [← List.map_take, ← List.map_drop, ← List.map_append, hstore]
    rfl

theorem W_copyMap0 {f : Nat → Value} (hf : ∀ x, (f x).oneCell' = true) {x y : Operand} {tx ty e ty' : TypeId} {b b' dLen dCap sLen sCap : Nat} {t t' : TypeId} {fr : Nat × Nat} {l s : List Nat} {dst : Tmp} {pos : String} {after : Array Edge}
    (hx : a.eval x = .slice (some ⟨b, 0, none⟩) dLen dCap) (hy : a.eval y = .slice (some ⟨b', 0, none⟩) sLen sCap) (hu : P.underlying tx = some (.slice e)) (hs : (P.info? e).map (·.size) = some 1)
    (M : Mem w0 X ((b, .cells (l.map f).toArray t (0, 0)) :: L) w) (hb : b ∈ X ∨ w0.heap.size ≤ b) (hr' : w.heap[b']? = some (.cells (s.map f).toArray t' fr)) (h1 : min sLen dLen ≤ l.length) (h2 : min sLen dLen ≤ s.length)
    (k : ∀ w', Mem w0 X ((b, .cells ((s.take (min sLen dLen) ++ l.drop (min sLen dLen)).map f).toArray t (0, 0)) :: L) w' → wpList P ops Q rest (a.put (some dst) (.int .i64 (min sLen dLen : Nat))) w') :
    wpList P ops Q ({ dst := some dst, op := .call { callee := .builtin .copy, args := #[x, y], argTypes := #[tx, ty] }, type := ty', pos := pos, after := after, guard := none } :: rest) a w :=
  L_run rfl (run_copyMap hf hx hy hu hs M.r0 hr' h1 h2) (k _ (Mem.put (L1 := []) M hb _))
end


/-! ### Two arrays of numbers compared -/
section
variable {P : Program} {ops : Array Oper} {Q : Exit → Act → World → Prop} {a : Act} {w w0 : World} {rest : List Oper} {X : List Nat} {L : List (Nat × Obj)}

theorem run_part_int {w : World} {elem : TypeId} {k : IntKind} {cs : Array Value} {i : Nat} {v : Value} (he : P.underlying elem = some (.int k)) (hv : cs[i]? = some v) : (part elem cs i).run P w = .ok v w := by
  have hagg : (isAgg elem).run P w = .ok false w := by
    unfold isAgg
    rw [Sem.run_bind, run_underlying he w]
    rfl
  simp [part, Sem.run_bind, hagg, hv]

/-- 'x[i]' of an array of numbers that is a value. -/
theorem run_index {w : World} {dst : Option Tmp} {x y : Operand} {t elem ty' : TypeId} {len n : Nat} {i : Int} {ki k : IntKind} {pos : String} {after : Array Edge} {g : Option (Nat × Bool)} {cs : Array Value} {v : Value}
    (hx : a.eval x = .agg cs) (hy : a.eval y = .int ki i) (hin : i = (n : Nat)) (hu : P.underlying t = some (.array len elem)) (he : P.underlying elem = some (.int k)) (hs : (P.info? elem).map (·.size) = some 1)
    (hn : n < len) (hv : cs[n]? = some v) :
    (execOp a.eval { dst := dst, op := .index t x y, type := ty', pos := pos, after := after, guard := g }).run P w = .ok (.value v) w := by
  subst hin
  have hsz : (sizeOf elem).run P w = .ok 1 w := by
    cases hq : P.info? elem with
    | none => simp [hq] at hs
    | some i => simp [sizeOf, typeInfo, hq] at hs ⊢; exact hs
  have hp := run_part_int (P := P) (w := w) he hv
  have h1 : 0 ≤ (n : Int) ∧ (n : Int) < (len : Int) := by omega
  simp [execOp, hx, hy, Instr.index, asIntOf, Sem.run_bind, run_underlying hu, h1, hsz, hp, hn]
theorem W_index {dst : Tmp} {x y : Operand} {t elem ty' : TypeId} {len n : Nat} {i : Int} {ki k : IntKind} {pos : String} {after : Array Edge} {cs : Array Value} {v : Value}
    (hx : a.eval x = .agg cs) (hy : a.eval y = .int ki i) (hin : i = (n : Nat)) (hu : P.underlying t = some (.array len elem)) (he : P.underlying elem = some (.int k)) (hs : (P.info? elem).map (·.size) = some 1)
    (hn : n < len) (hv : cs[n]? = some v) (k : wpList P ops Q rest (a.put (some dst) v) w) :
    wpList P ops Q ({ dst := some dst, op := .index t x y, type := ty', pos := pos, after := after, guard := none } :: rest) a w := L_run rfl (run_index hx hy hin hu he hs hn hv) k
theorem run_eqArr {w : World} (d : Nat) {t elem : TypeId} {len : Nat} {k : IntKind} (xs ys : List Nat) (hu : P.underlying t = some (.array len elem)) (he : P.underlying elem = some (.int k))
    (hs : (P.info? elem).map (·.size) = some 1) (hx : xs.length = len) (hy : ys.length = len) :
   (Op.equalIn (d + 2) t (.agg (xs.map fun x : Nat => Value.int k (x : Int)).toArray) (.agg (ys.map fun x : Nat => Value.int k (x : Int)).toArray)).run P w = .ok (decide (xs = ys)) w := by
  have hsz : (sizeOf elem).run P w = .ok 1 w := by
    cases hq : P.info? elem with
    | none => simp [hq] at hs
    | some i => simp [sizeOf, typeInfo, hq] at hs ⊢; exact hs
  have hloop : ∀ n s, s + n = len → (Sem.run P (forIn (List.range' s n) ((none, ()) : Option Bool × Unit) fun i __s => do
            let a ← part elem (xs.map fun x : Nat => Value.int k (x : Int)).toArray (i * 1)
            let b ← part elem (ys.map fun x : Nat => Value.int k (x : Int)).toArray (i * 1)
            let c ← Op.equalIn (d + 1) elem a b
            if (!c) = true then pure (ForInStep.done (some false, ())) else pure (ForInStep.yield (none, ()))) w) =
      .ok (if xs.drop s = ys.drop s then (none, ()) else (some false, ())) w := by
    intro n
    induction n with
    | zero =>
      intro s hsn
      rw [if_pos (by rw [List.drop_of_length_le (by omega), List.drop_of_length_le (by omega)])]
      rfl
    | succ n ih =>
      intro s hsn
      have hsx : s < xs.length := by omega
      have hsy : s < ys.length := by omega
      rw [List.range'_succ, List.forIn_cons]
      simp only [Sem.run_bind, Nat.mul_one]
      rw [run_part_int (v := .int k (xs[s] : Int)) he (by simp [hsx]), Result.andThen_ok, run_part_int (v := .int k (ys[s] : Int)) he (by simp [hsy]), Result.andThen_ok,
        run_equalIn_int w d elem k k _ _ he, Result.andThen_ok, List.drop_eq_getElem_cons hsx, List.drop_eq_getElem_cons hsy]
      by_cases hxy : xs[s] = ys[s]
      · simp only [hxy, beq_self_eq_true, Bool.not_true, Bool.false_eq_true, if_false, List.cons.injEq, true_and]
        have := ih (s + 1) (by omega)
        simp only [Nat.mul_one] at this
        exact this
      · have : ((xs[s] : Int) == (ys[s] : Int)) = false := by rw [beq_eq_false_iff_ne]; omega
        simp only [this, Bool.not_false, if_true, List.cons.injEq, hxy, false_and, if_false]
        rfl
  rw [show d + 2 = (d + 1) + 1 from rfl, Op.equalIn]
  simp only [Sem.run_bind, run_underlying hu, Result.andThen_ok, hsz]
  simp only [Std.Legacy.Range.forIn_eq_forIn_range']
  have hz : [:len].size = len := by simp [Std.Legacy.Range.size]
  rw [hz]
  have := hloop len 0 (by omega)
  rw [this]
  simp only [Result.andThen_ok, List.drop_zero]
  by_cases hxy : xs = ys
  · simp [hxy]
  · simp [hxy]
theorem run_eql8 {w : World} {dst : Option Tmp} {x y : Operand} {t elem ty ty' : TypeId} {len : Nat} {pos : String} {after : Array Edge} {g : Option (Nat × Bool)} {l l' : List Nat}
    (hx : a.eval x = A8 l) (hy : a.eval y = A8 l') (hu : P.underlying t = some (.array len elem)) (he : P.underlying elem = some (.int .u8)) (hs : (P.info? elem).map (·.size) = some 1)
    (hg : P.eqGuardType P.depth t = false) (hl : l.length = len) (hl' : l'.length = len) :
    (execOp a.eval { dst := dst, op := .binOp .eql t x y ty, type := ty', pos := pos, after := after, guard := g }).run P w = .ok (.value (.bool (decide (l = l')))) w := by
  have h1 := run_eqArr (P := P) (w := w) 9998 (t := t) (k := .u8) l l' hu he hs hl hl'
  simp [execOp, hx, hy, eqGuard, Go.program, Sem.run, hg, run_eql_struct, run_neq_struct, h1]
theorem W_eql8 {dst : Tmp} {x y : Operand} {t elem ty ty' : TypeId} {len : Nat} {pos : String} {after : Array Edge} {l l' : List Nat}
    (hx : a.eval x = A8 l) (hy : a.eval y = A8 l') (hu : P.underlying t = some (.array len elem)) (he : P.underlying elem = some (.int .u8)) (hs : (P.info? elem).map (·.size) = some 1)
    (hg : P.eqGuardType P.depth t = false) (hl : l.length = len) (hl' : l'.length = len) (k : wpList P ops Q rest (a.put (some dst) (.bool (decide (l = l')))) w) :
    wpList P ops Q ({ dst := some dst, op := .binOp .eql t x y ty, type := ty', pos := pos, after := after, guard := none } :: rest) a w := L_run rfl (run_eql8 hx hy hu he hs hg hl hl') k
theorem run_neq8 {w : World} {dst : Option Tmp} {x y : Operand} {t elem ty ty' : TypeId} {len : Nat} {pos : String} {after : Array Edge} {g : Option (Nat × Bool)} {l l' : List Nat}
    (hx : a.eval x = A8 l) (hy : a.eval y = A8 l') (hu : P.underlying t = some (.array len elem)) (he : P.underlying elem = some (.int .u8)) (hs : (P.info? elem).map (·.size) = some 1)
    (hg : P.eqGuardType P.depth t = false) (hl : l.length = len) (hl' : l'.length = len) :
    (execOp a.eval { dst := dst, op := .binOp .neq t x y ty, type := ty', pos := pos, after := after, guard := g }).run P w = .ok (.value (.bool (!decide (l = l')))) w := by
  have h1 := run_eqArr (P := P) (w := w) 9998 (t := t) (k := .u8) l l' hu he hs hl hl'
  simp [execOp, hx, hy, eqGuard, Go.program, Sem.run, hg, run_eql_struct, run_neq_struct, h1]
theorem W_neq8 {dst : Tmp} {x y : Operand} {t elem ty ty' : TypeId} {len : Nat} {pos : String} {after : Array Edge} {l l' : List Nat}
    (hx : a.eval x = A8 l) (hy : a.eval y = A8 l') (hu : P.underlying t = some (.array len elem)) (he : P.underlying elem = some (.int .u8)) (hs : (P.info? elem).map (·.size) = some 1)
    (hg : P.eqGuardType P.depth t = false) (hl : l.length = len) (hl' : l'.length = len) (k : wpList P ops Q rest (a.put (some dst) (.bool (!decide (l = l')))) w) :
    wpList P ops Q ({ dst := some dst, op := .binOp .neq t x y ty, type := ty', pos := pos, after := after, guard := none } :: rest) a w := L_run rfl (run_neq8 hx hy hu he hs hg hl hl') k
theorem run_eql64 {w : World} {dst : Option Tmp} {x y : Operand} {t elem ty ty' : TypeId} {len : Nat} {pos : String} {after : Array Edge} {g : Option (Nat × Bool)} {l l' : List Nat}
    (hx : a.eval x = A64 l) (hy : a.eval y = A64 l') (hu : P.underlying t = some (.array len elem)) (he : P.underlying elem = some (.int .u64)) (hs : (P.info? elem).map (·.size) = some 1)
    (hg : P.eqGuardType P.depth t = false) (hl : l.length = len) (hl' : l'.length = len) :
    (execOp a.eval { dst := dst, op := .binOp .eql t x y ty, type := ty', pos := pos, after := after, guard := g }).run P w = .ok (.value (.bool (decide (l = l')))) w := by
  have h1 := run_eqArr (P := P) (w := w) 9998 (t := t) (k := .u64) l l' hu he hs hl hl'
  simp [execOp, hx, hy, eqGuard, Go.program, Sem.run, hg, run_eql_struct, run_neq_struct, h1]
theorem W_eql64 {dst : Tmp} {x y : Operand} {t elem ty ty' : TypeId} {len : Nat} {pos : String} {after : Array Edge} {l l' : List Nat}
    (hx : a.eval x = A64 l) (hy : a.eval y = A64 l') (hu : P.underlying t = some (.array len elem)) (he : P.underlying elem = some (.int .u64)) (hs : (P.info? elem).map (·.size) = some 1)
    (hg : P.eqGuardType P.depth t = false) (hl : l.length = len) (hl' : l'.length = len) (k : wpList P ops Q rest (a.put (some dst) (.bool (decide (l = l')))) w) :
    wpList P ops Q ({ dst := some dst, op := .binOp .eql t x y ty, type := ty', pos := pos, after := after, guard := none } :: rest) a w := L_run rfl (run_eql64 hx hy hu he hs hg hl hl') k
theorem run_neq64 {w : World} {dst : Option Tmp} {x y : Operand} {t elem ty ty' : TypeId} {len : Nat} {pos : String} {after : Array Edge} {g : Option (Nat × Bool)} {l l' : List Nat}
    (hx : a.eval x = A64 l) (hy : a.eval y = A64 l') (hu : P.underlying t = some (.array len elem)) (he : P.underlying elem = some (.int .u64)) (hs : (P.info? elem).map (·.size) = some 1)
    (hg : P.eqGuardType P.depth t = false) (hl : l.length = len) (hl' : l'.length = len) :
    (execOp a.eval { dst := dst, op := .binOp .neq t x y ty, type := ty', pos := pos, after := after, guard := g }).run P w = .ok (.value (.bool (!decide (l = l')))) w := by
  have h1 := run_eqArr (P := P) (w := w) 9998 (t := t) (k := .u64) l l' hu he hs hl hl'
  simp [execOp, hx, hy, eqGuard, Go.program, Sem.run, hg, run_eql_struct, run_neq_struct, h1]
theorem W_neq64 {dst : Tmp} {x y : Operand} {t elem ty ty' : TypeId} {len : Nat} {pos : String} {after : Array Edge} {l l' : List Nat}
    (hx : a.eval x = A64 l) (hy : a.eval y = A64 l') (hu : P.underlying t = some (.array len elem)) (he : P.underlying elem = some (.int .u64)) (hs : (P.info? elem).map (·.size) = some 1)
    (hg : P.eqGuardType P.depth t = false) (hl : l.length = len) (hl' : l'.length = len) (k : wpList P ops Q rest (a.put (some dst) (.bool (!decide (l = l')))) w) :
    wpList P ops Q ({ dst := some dst, op := .binOp .neq t x y ty, type := ty', pos := pos, after := after, guard := none } :: rest) a w := L_run rfl (run_neq64 hx hy hu he hs hg hl hl') k
end
end Go.Own
namespace Go.Proofs.YgcsalGreat
theorem size5 : (Salg.prog.info? 5).map (·.size) = some 1 := by kernel_rfl
theorem size22 : (Salg.prog.info? 22).map (·.size) = some 32 := by kernel_rfl
theorem size23 : (Salg.prog.info? 23).map (·.size) = some 1 := by kernel_rfl
theorem size25 : (Salg.prog.info? 25).map (·.size) = some 4 := by kernel_rfl
theorem size276 : (Salg.prog.info? 276).map (·.size) = some 9 := by kernel_rfl
theorem size178 : (Salg.prog.info? 178).map (·.size) = some 3 := by kernel_rfl
theorem size183 : (Salg.prog.info? 183).map (·.size) = some 8 := by kernel_rfl
theorem size33 : (Salg.prog.info? 33).map (·.size) = some 8 := by kernel_rfl
theorem guard22 : Salg.prog.eqGuardType Salg.prog.depth 22 = false := by kernel_rfl
theorem guard25 : Salg.prog.eqGuardType Salg.prog.depth 25 = false := by kernel_rfl
theorem guard276 : Salg.prog.eqGuardType Salg.prog.depth 276 = false := by kernel_rfl
theorem guard178 : Salg.prog.eqGuardType Salg.prog.depth 178 = false := by kernel_rfl
theorem info5 : (Salg.prog.info? 5).map (fun i => (i.zero, i.size, i.bytes)) = some (some (.int .u8 0), 1, 1) := by kernel_rfl
theorem zero22 : (Salg.prog.info? 22).bind (·.zero) = some (Own.A8 (List.replicate 32 0)) := by kernel_rfl
theorem zero25 : (Salg.prog.info? 25).bind (·.zero) = some (Own.A64 (List.replicate 4 0)) := by kernel_rfl
theorem zero276 : (Salg.prog.info? 276).bind (·.zero) = some (Own.A64 (List.replicate 9 0)) := by kernel_rfl
theorem zero183 : (Salg.prog.info? 183).bind (·.zero) = some (Own.A64 (List.replicate 8 0)) := by kernel_rfl
theorem zero178 : (Salg.prog.info? 178).bind (·.zero) = some (Own.A8 (List.replicate 3 0)) := by kernel_rfl
theorem zero33 : (Salg.prog.info? 33).bind (·.zero) = some (Own.A8 (List.replicate 8 0)) := by kernel_rfl
end Go.Proofs.YgcsalGreat

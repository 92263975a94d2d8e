/-
  The seat's types: sizes and zero values, closed facts of the loaded program; the spelling of rows of numbers.
-/
import Derived.Test.YgcsalRows
import Derived.Test.YgcsalBase
set_option linter.unusedSimpArgs false
namespace Go.Own
abbrev n8 (x : Nat) : Value := .int .u8 (x : Int)
abbrev n64 (x : Nat) : Value := .int .u64 (x : Int)
abbrev R8 (t : TypeId) (l : List Nat) : Obj := .cells (l.map n8).toArray t (0, 0)
abbrev R64 (t : TypeId) (l : List Nat) : Obj := .cells (l.map n64).toArray t (0, 0)
abbrev A8 (l : List Nat) : Value := .agg (l.map n8).toArray
abbrev A64 (l : List Nat) : Value := .agg (l.map n64).toArray
theorem one8 (l : List Nat) : ∀ u ∈ (l.map n8).toArray.toList, u.oneCell' = true := by intro u hu; simp at hu; obtain ⟨x, _, rfl⟩ := hu; rfl
theorem one64 (l : List Nat) : ∀ u ∈ (l.map n64).toArray.toList, u.oneCell' = true := by intro u hu; simp at hu; obtain ⟨x, _, rfl⟩ := hu; rfl
theorem get_map {f : Nat → Value} {l : List Nat} {i x : Nat} (h : l[i]? = some x) : (l.map f).toArray[i]? = some (f x) := by simp [h]
theorem set_map {f : Nat → Value} (l : List Nat) (i x : Nat) : (l.map f).toArray.setIfInBounds i (f x) = ((l.set i x).map f).toArray := by
  simp
theorem extract_map {f : Nat → Value} (l : List Nat) (o n : Nat) : (l.map f).toArray.extract o (o + n) = (((l.drop o).take n).map f).toArray := by
  simp [List.extract_toArray, List.map_take, List.map_drop]

/-! ### A store of a number into a row of numbers, at a place of the list -/
section
variable {P : Program} {ops : Array Oper} {Q : Exit → Act → World → Prop} {a : Act} {w w0 : World} {rest : List Oper} {X : List Nat} {L : List (Nat × Obj)} {p0 p1 p2 p3 p4 : Nat × Obj}
  {b o m : Nat} {l : List Nat} {n : Int} {t : TypeId} {x y : Operand} {ty ty' : TypeId} {pos : String} {after : Array Edge}
theorem W_st8_0 (hx : a.eval x = .pointer (some ⟨b, o, none⟩)) (hy : a.eval y = .int .u8 n) (hv : n = (m : Nat)) (M : Mem w0 X ((b, R8 t l) :: L) w) (hb : b ∈ X ∨ w0.heap.size ≤ b)
    (hi : (P.info? ty).map (·.size) = some 1) (hle : o < l.length) (k : ∀ w', Mem w0 X ((b, R8 t (l.set o m)) :: L) w' → wpList P ops Q rest a w') :
    wpList P ops Q ({ dst := none, op := .store ty x y, type := ty', pos := pos, after := after, guard := none } :: rest) a w :=
  W_storeCell (L1 := []) hx hy M hb rfl hi (by simpa using hle) (fun w' M' => k w' (by subst hv; rw [set_map] at M'; exact M'))
theorem W_st8_1 (hx : a.eval x = .pointer (some ⟨b, o, none⟩)) (hy : a.eval y = .int .u8 n) (hv : n = (m : Nat)) (M : Mem w0 X (p0 :: (b, R8 t l) :: L) w) (hb : b ∈ X ∨ w0.heap.size ≤ b)
    (hi : (P.info? ty).map (·.size) = some 1) (hle : o < l.length) (k : ∀ w', Mem w0 X (p0 :: (b, R8 t (l.set o m)) :: L) w' → wpList P ops Q rest a w') :
    wpList P ops Q ({ dst := none, op := .store ty x y, type := ty', pos := pos, after := after, guard := none } :: rest) a w :=
  W_storeCell (L1 := [p0]) hx hy M hb rfl hi (by simpa using hle) (fun w' M' => k w' (by subst hv; rw [set_map] at M'; exact M'))
theorem W_st8_2 (hx : a.eval x = .pointer (some ⟨b, o, none⟩)) (hy : a.eval y = .int .u8 n) (hv : n = (m : Nat)) (M : Mem w0 X (p0 :: p1 :: (b, R8 t l) :: L) w) (hb : b ∈ X ∨ w0.heap.size ≤ b)
    (hi : (P.info? ty).map (·.size) = some 1) (hle : o < l.length) (k : ∀ w', Mem w0 X (p0 :: p1 :: (b, R8 t (l.set o m)) :: L) w' → wpList P ops Q rest a w') :
    wpList P ops Q ({ dst := none, op := .store ty x y, type := ty', pos := pos, after := after, guard := none } :: rest) a w :=
  W_storeCell (L1 := [p0, p1]) hx hy M hb rfl hi (by simpa using hle) (fun w' M' => k w' (by subst hv; rw [set_map] at M'; exact M'))
theorem W_st8_3 (hx : a.eval x = .pointer (some ⟨b, o, none⟩)) (hy : a.eval y = .int .u8 n) (hv : n = (m : Nat)) (M : Mem w0 X (p0 :: p1 :: p2 :: (b, R8 t l) :: L) w) (hb : b ∈ X ∨ w0.heap.size ≤ b)
    (hi : (P.info? ty).map (·.size) = some 1) (hle : o < l.length) (k : ∀ w', Mem w0 X (p0 :: p1 :: p2 :: (b, R8 t (l.set o m)) :: L) w' → wpList P ops Q rest a w') :
    wpList P ops Q ({ dst := none, op := .store ty x y, type := ty', pos := pos, after := after, guard := none } :: rest) a w :=
  W_storeCell (L1 := [p0, p1, p2]) hx hy M hb rfl hi (by simpa using hle) (fun w' M' => k w' (by subst hv; rw [set_map] at M'; exact M'))
theorem W_st8_4 (hx : a.eval x = .pointer (some ⟨b, o, none⟩)) (hy : a.eval y = .int .u8 n) (hv : n = (m : Nat)) (M : Mem w0 X (p0 :: p1 :: p2 :: p3 :: (b, R8 t l) :: L) w) (hb : b ∈ X ∨ w0.heap.size ≤ b)
    (hi : (P.info? ty).map (·.size) = some 1) (hle : o < l.length) (k : ∀ w', Mem w0 X (p0 :: p1 :: p2 :: p3 :: (b, R8 t (l.set o m)) :: L) w' → wpList P ops Q rest a w') :
    wpList P ops Q ({ dst := none, op := .store ty x y, type := ty', pos := pos, after := after, guard := none } :: rest) a w :=
  W_storeCell (L1 := [p0, p1, p2, p3]) hx hy M hb rfl hi (by simpa using hle) (fun w' M' => k w' (by subst hv; rw [set_map] at M'; exact M'))
theorem W_st64_0 (hx : a.eval x = .pointer (some ⟨b, o, none⟩)) (hy : a.eval y = .int .u64 n) (hv : n = (m : Nat)) (M : Mem w0 X ((b, R64 t l) :: L) w) (hb : b ∈ X ∨ w0.heap.size ≤ b)
    (hi : (P.info? ty).map (·.size) = some 1) (hle : o < l.length) (k : ∀ w', Mem w0 X ((b, R64 t (l.set o m)) :: L) w' → wpList P ops Q rest a w') :
    wpList P ops Q ({ dst := none, op := .store ty x y, type := ty', pos := pos, after := after, guard := none } :: rest) a w :=
  W_storeCell (L1 := []) hx hy M hb rfl hi (by simpa using hle) (fun w' M' => k w' (by subst hv; rw [set_map] at M'; exact M'))
theorem W_st64_1 (hx : a.eval x = .pointer (some ⟨b, o, none⟩)) (hy : a.eval y = .int .u64 n) (hv : n = (m : Nat)) (M : Mem w0 X (p0 :: (b, R64 t l) :: L) w) (hb : b ∈ X ∨ w0.heap.size ≤ b)
    (hi : (P.info? ty).map (·.size) = some 1) (hle : o < l.length) (k : ∀ w', Mem w0 X (p0 :: (b, R64 t (l.set o m)) :: L) w' → wpList P ops Q rest a w') :
    wpList P ops Q ({ dst := none, op := .store ty x y, type := ty', pos := pos, after := after, guard := none } :: rest) a w :=
  W_storeCell (L1 := [p0]) hx hy M hb rfl hi (by simpa using hle) (fun w' M' => k w' (by subst hv; rw [set_map] at M'; exact M'))
theorem W_st64_2 (hx : a.eval x = .pointer (some ⟨b, o, none⟩)) (hy : a.eval y = .int .u64 n) (hv : n = (m : Nat)) (M : Mem w0 X (p0 :: p1 :: (b, R64 t l) :: L) w) (hb : b ∈ X ∨ w0.heap.size ≤ b)
    (hi : (P.info? ty).map (·.size) = some 1) (hle : o < l.length) (k : ∀ w', Mem w0 X (p0 :: p1 :: (b, R64 t (l.set o m)) :: L) w' → wpList P ops Q rest a w') :
    wpList P ops Q ({ dst := none, op := .store ty x y, type := ty', pos := pos, after := after, guard := none } :: rest) a w :=
  W_storeCell (L1 := [p0, p1]) hx hy M hb rfl hi (by simpa using hle) (fun w' M' => k w' (by subst hv; rw [set_map] at M'; exact M'))
theorem W_st64_3 (hx : a.eval x = .pointer (some ⟨b, o, none⟩)) (hy : a.eval y = .int .u64 n) (hv : n = (m : Nat)) (M : Mem w0 X (p0 :: p1 :: p2 :: (b, R64 t l) :: L) w) (hb : b ∈ X ∨ w0.heap.size ≤ b)
    (hi : (P.info? ty).map (·.size) = some 1) (hle : o < l.length) (k : ∀ w', Mem w0 X (p0 :: p1 :: p2 :: (b, R64 t (l.set o m)) :: L) w' → wpList P ops Q rest a w') :
    wpList P ops Q ({ dst := none, op := .store ty x y, type := ty', pos := pos, after := after, guard := none } :: rest) a w :=
  W_storeCell (L1 := [p0, p1, p2]) hx hy M hb rfl hi (by simpa using hle) (fun w' M' => k w' (by subst hv; rw [set_map] at M'; exact M'))
theorem W_st64_4 (hx : a.eval x = .pointer (some ⟨b, o, none⟩)) (hy : a.eval y = .int .u64 n) (hv : n = (m : Nat)) (M : Mem w0 X (p0 :: p1 :: p2 :: p3 :: (b, R64 t l) :: L) w) (hb : b ∈ X ∨ w0.heap.size ≤ b)
    (hi : (P.info? ty).map (·.size) = some 1) (hle : o < l.length) (k : ∀ w', Mem w0 X (p0 :: p1 :: p2 :: p3 :: (b, R64 t (l.set o m)) :: L) w' → wpList P ops Q rest a w') :
    wpList P ops Q ({ dst := none, op := .store ty x y, type := ty', pos := pos, after := after, guard := none } :: rest) a w :=
  W_storeCell (L1 := [p0, p1, p2, p3]) hx hy M hb rfl hi (by simpa using hle) (fun w' M' => k w' (by subst hv; rw [set_map] at M'; exact M'))
end
/-! ### Two arrays of numbers compared -/
section
variable {P : Program} {ops : Array Oper} {Q : Exit → Act → World → Prop} {a : Act} {w w0 : World} {rest : List Oper} {X : List Nat} {L : List (Nat × Obj)}

theorem run_part_int {w : World} {elem : TypeId} {k : IntKind} {cs : Array Value} {i : Nat} {v : Value} (he : P.underlying elem = some (.int k)) (hv : cs[i]? = some v) : (part elem cs i).run P w = .ok v w := by
  have hagg : (isAgg elem).run P w = .ok false w := by
    unfold isAgg
    rw [Sem.run_bind, run_underlying he w]
    rfl
  simp [part, Sem.run_bind, hagg, hv]

/-- 'x[i]' of an array of numbers that is a value. -/
theorem run_index {w : World} {dst : Option Tmp} {x y : Operand} {t elem ty' : TypeId} {len n : Nat} {i : Int} {ki k : IntKind} {pos : String} {after : Array Edge} {g : Option (Nat × Bool)} {cs : Array Value} {v : Value}
    (hx : a.eval x = .agg cs) (hy : a.eval y = .int ki i) (hin : i = (n : Nat)) (hu : P.underlying t = some (.array len elem)) (he : P.underlying elem = some (.int k)) (hs : (P.info? elem).map (·.size) = some 1)
    (hn : n < len) (hv : cs[n]? = some v) :
    (execOp a.eval { dst := dst, op := .index t x y, type := ty', pos := pos, after := after, guard := g }).run P w = .ok (.value v) w := by
  subst hin
  have hsz : (sizeOf elem).run P w = .ok 1 w := by
    cases hq : P.info? elem with
    | none => simp [hq] at hs
    | some i => simp [sizeOf, typeInfo, hq] at hs ⊢; exact hs
  have hp := run_part_int (P := P) (w := w) he hv
  have h1 : 0 ≤ (n : Int) ∧ (n : Int) < (len : Int) := by omega
  simp [execOp, hx, hy, Instr.index, asIntOf, Sem.run_bind, run_underlying hu, h1, hsz, hp, hn]
theorem W_index {dst : Tmp} {x y : Operand} {t elem ty' : TypeId} {len n : Nat} {i : Int} {ki k : IntKind} {pos : String} {after : Array Edge} {cs : Array Value} {v : Value}
    (hx : a.eval x = .agg cs) (hy : a.eval y = .int ki i) (hin : i = (n : Nat)) (hu : P.underlying t = some (.array len elem)) (he : P.underlying elem = some (.int k)) (hs : (P.info? elem).map (·.size) = some 1)
    (hn : n < len) (hv : cs[n]? = some v) (k : wpList P ops Q rest (a.put (some dst) v) w) :
    wpList P ops Q ({ dst := some dst, op := .index t x y, type := ty', pos := pos, after := after, guard := none } :: rest) a w := L_run rfl (run_index hx hy hin hu he hs hn hv) k
theorem run_eqArr {w : World} (d : Nat) {t elem : TypeId} {len : Nat} {k : IntKind} (xs ys : List Nat) (hu : P.underlying t = some (.array len elem)) (he : P.underlying elem = some (.int k))
    (hs : (P.info? elem).map (·.size) = some 1) (hx : xs.length = len) (hy : ys.length = len) :
   (Op.equalIn (d + 2) t (.agg (xs.map fun x : Nat => Value.int k (x : Int)).toArray) (.agg (ys.map fun x : Nat => Value.int k (x : Int)).toArray)).run P w = .ok (decide (xs = ys)) w := by
  have hsz : (sizeOf elem).run P w = .ok 1 w := by
    cases hq : P.info? elem with
    | none => simp [hq] at hs
    | some i => simp [sizeOf, typeInfo, hq] at hs ⊢; exact hs
  have hloop : ∀ n s, s + n = len → (Sem.run P (forIn (List.range' s n) ((none, ()) : Option Bool × Unit) fun i __s => do
            let a ← part elem (xs.map fun x : Nat => Value.int k (x : Int)).toArray (i * 1)
            let b ← part elem (ys.map fun x : Nat => Value.int k (x : Int)).toArray (i * 1)
            let c ← Op.equalIn (d + 1) elem a b
            if (!c) = true then pure (ForInStep.done (some false, ())) else pure (ForInStep.yield (none, ()))) w) =
      .ok (if xs.drop s = ys.drop s then (none, ()) else (some false, ())) w := by
    intro n
    induction n with
    | zero =>
      intro s hsn
      rw [if_pos (by rw [List.drop_of_length_le (by omega), List.drop_of_length_le (by omega)])]
      rfl
    | succ n ih =>
      intro s hsn
      have hsx : s < xs.length := by omega
      have hsy : s < ys.length := by omega
      rw [List.range'_succ, List.forIn_cons]
      simp only [Sem.run_bind, Nat.mul_one]
      rw [run_part_int (v := .int k (xs[s] : Int)) he (by simp [hsx]), Result.andThen_ok, run_part_int (v := .int k (ys[s] : Int)) he (by simp [hsy]), Result.andThen_ok,
        run_equalIn_int w d elem k k _ _ he, Result.andThen_ok, List.drop_eq_getElem_cons hsx, List.drop_eq_getElem_cons hsy]
      by_cases hxy : xs[s] = ys[s]
      · simp only [hxy, beq_self_eq_true, Bool.not_true, Bool.false_eq_true, if_false, List.cons.injEq, true_and]
        have := ih (s + 1) (by omega)
        simp only [Nat.mul_one] at this
        exact this
      · have : ((xs[s] : Int) == (ys[s] : Int)) = false := by rw [beq_eq_false_iff_ne]; omega
        simp only [this, Bool.not_false, if_true, List.cons.injEq, hxy, false_and, if_false]
        rfl
  rw [show d + 2 = (d + 1) + 1 from rfl, Op.equalIn]
  simp only [Sem.run_bind, run_underlying hu, Result.andThen_ok, hsz]
  simp only [Std.Legacy.Range.forIn_eq_forIn_range']
  have hz : [:len].size = len := by simp [Std.Legacy.Range.size]
  rw [hz]
  have := hloop len 0 (by omega)
  rw [this]
  simp only [Result.andThen_ok, List.drop_zero]
  by_cases hxy : xs = ys
  · simp [hxy]
  · simp [hxy]
theorem run_eql8 {w : World} {dst : Option Tmp} {x y : Operand} {t elem ty ty' : TypeId} {len : Nat} {pos : String} {after : Array Edge} {g : Option (Nat × Bool)} {l l' : List Nat}
    (hx : a.eval x = A8 l) (hy : a.eval y = A8 l') (hu : P.underlying t = some (.array len elem)) (he : P.underlying elem = some (.int .u8)) (hs : (P.info? elem).map (·.size) = some 1)
    (hg : P.eqGuardType P.depth t = false) (hl : l.length = len) (hl' : l'.length = len) :
    (execOp a.eval { dst := dst, op := .binOp .eql t x y ty, type := ty', pos := pos, after := after, guard := g }).run P w = .ok (.value (.bool (decide (l = l')))) w := by
  have h1 := run_eqArr (P := P) (w := w) 9998 (t := t) (k := .u8) l l' hu he hs hl hl'
  simp [execOp, hx, hy, eqGuard, Go.program, Sem.run, hg, run_eql_struct, run_neq_struct, h1]
theorem W_eql8 {dst : Tmp} {x y : Operand} {t elem ty ty' : TypeId} {len : Nat} {pos : String} {after : Array Edge} {l l' : List Nat}
    (hx : a.eval x = A8 l) (hy : a.eval y = A8 l') (hu : P.underlying t = some (.array len elem)) (he : P.underlying elem = some (.int .u8)) (hs : (P.info? elem).map (·.size) = some 1)
    (hg : P.eqGuardType P.depth t = false) (hl : l.length = len) (hl' : l'.length = len) (k : wpList P ops Q rest (a.put (some dst) (.bool (decide (l = l')))) w) :
    wpList P ops Q ({ dst := some dst, op := .binOp .eql t x y ty, type := ty', pos := pos, after := after, guard := none } :: rest) a w := L_run rfl (run_eql8 hx hy hu he hs hg hl hl') k
theorem run_neq8 {w : World} {dst : Option Tmp} {x y : Operand} {t elem ty ty' : TypeId} {len : Nat} {pos : String} {after : Array Edge} {g : Option (Nat × Bool)} {l l' : List Nat}
    (hx : a.eval x = A8 l) (hy : a.eval y = A8 l') (hu : P.underlying t = some (.array len elem)) (he : P.underlying elem = some (.int .u8)) (hs : (P.info? elem).map (·.size) = some 1)
    (hg : P.eqGuardType P.depth t = false) (hl : l.length = len) (hl' : l'.length = len) :
    (execOp a.eval { dst := dst, op := .binOp .neq t x y ty, type := ty', pos := pos, after := after, guard := g }).run P w = .ok (.value (.bool (!decide (l = l')))) w := by
  have h1 := run_eqArr (P := P) (w := w) 9998 (t := t) (k := .u8) l l' hu he hs hl hl'
  simp [execOp, hx, hy, eqGuard, Go.program, Sem.run, hg, run_eql_struct, run_neq_struct, h1]
theorem W_neq8 {dst : Tmp} {x y : Operand} {t elem ty ty' : TypeId} {len : Nat} {pos : String} {after : Array Edge} {l l' : List Nat}
    (hx : a.eval x = A8 l) (hy : a.eval y = A8 l') (hu : P.underlying t = some (.array len elem)) (he : P.underlying elem = some (.int .u8)) (hs : (P.info? elem).map (·.size) = some 1)
    (hg : P.eqGuardType P.depth t = false) (hl : l.length = len) (hl' : l'.length = len) (k : wpList P ops Q rest (a.put (some dst) (.bool (!decide (l = l')))) w) :
    wpList P ops Q ({ dst := some dst, op := .binOp .neq t x y ty, type := ty', pos := pos, after := after, guard := none } :: rest) a w := L_run rfl (run_neq8 hx hy hu he hs hg hl hl') k
theorem run_eql64 {w : World} {dst : Option Tmp} {x y : Operand} {t elem ty ty' : TypeId} {len : Nat} {pos : String} {after : Array Edge} {g : Option (Nat × Bool)} {l l' : List Nat}
    (hx : a.eval x = A64 l) (hy : a.eval y = A64 l') (hu : P.underlying t = some (.array len elem)) (he : P.underlying elem = some (.int .u64)) (hs : (P.info? elem).map (·.size) = some 1)
    (hg : P.eqGuardType P.depth t = false) (hl : l.length = len) (hl' : l'.length = len) :
    (execOp a.eval { dst := dst, op := .binOp .eql t x y ty, type := ty', pos := pos, after := after, guard := g }).run P w = .ok (.value (.bool (decide (l = l')))) w := by
  have h1 := run_eqArr (P := P) (w := w) 9998 (t := t) (k := .u64) l l' hu he hs hl hl'
  simp [execOp, hx, hy, eqGuard, Go.program, Sem.run, hg, run_eql_struct, run_neq_struct, h1]
theorem W_eql64 {dst : Tmp} {x y : Operand} {t elem ty ty' : TypeId} {len : Nat} {pos : String} {after : Array Edge} {l l' : List Nat}
    (hx : a.eval x = A64 l) (hy : a.eval y = A64 l') (hu : P.underlying t = some (.array len elem)) (he : P.underlying elem = some (.int .u64)) (hs : (P.info? elem).map (·.size) = some 1)
    (hg : P.eqGuardType P.depth t = false) (hl : l.length = len) (hl' : l'.length = len) (k : wpList P ops Q rest (a.put (some dst) (.bool (decide (l = l')))) w) :
    wpList P ops Q ({ dst := some dst, op := .binOp .eql t x y ty, type := ty', pos := pos, after := after, guard := none } :: rest) a w := L_run rfl (run_eql64 hx hy hu he hs hg hl hl') k
theorem run_neq64 {w : World} {dst : Option Tmp} {x y : Operand} {t elem ty ty' : TypeId} {len : Nat} {pos : String} {after : Array Edge} {g : Option (Nat × Bool)} {l l' : List Nat}
    (hx : a.eval x = A64 l) (hy : a.eval y = A64 l') (hu : P.underlying t = some (.array len elem)) (he : P.underlying elem = some (.int .u64)) (hs : (P.info? elem).map (·.size) = some 1)
    (hg : P.eqGuardType P.depth t = false) (hl : l.length = len) (hl' : l'.length = len) :
    (execOp a.eval { dst := dst, op := .binOp .neq t x y ty, type := ty', pos := pos, after := after, guard := g }).run P w = .ok (.value (.bool (!decide (l = l')))) w := by
  have h1 := run_eqArr (P := P) (w := w) 9998 (t := t) (k := .u64) l l' hu he hs hl hl'
  simp [execOp, hx, hy, eqGuard, Go.program, Sem.run, hg, run_eql_struct, run_neq_struct, h1]
theorem W_neq64 {dst : Tmp} {x y : Operand} {t elem ty ty' : TypeId} {len : Nat} {pos : String} {after : Array Edge} {l l' : List Nat}
    (hx : a.eval x = A64 l) (hy : a.eval y = A64 l') (hu : P.underlying t = some (.array len elem)) (he : P.underlying elem = some (.int .u64)) (hs : (P.info? elem).map (·.size) = some 1)
    (hg : P.eqGuardType P.depth t = false) (hl : l.length = len) (hl' : l'.length = len) (k : wpList P ops Q rest (a.put (some dst) (.bool (!decide (l = l')))) w) :
    wpList P ops Q ({ dst := some dst, op := .binOp .neq t x y ty, type := ty', pos := pos, after := after, guard := none } :: rest) a w := L_run rfl (run_neq64 hx hy hu he hs hg hl hl') k
end
end Go.Own
namespace Go.Proofs.Ygcsal
theorem size5 : (Salg.prog.info? 5).map (·.size) = some 1 := by kernel_rfl
theorem size22 : (Salg.prog.info? 22).map (·.size) = some 32 := by kernel_rfl
theorem size23 : (Salg.prog.info? 23).map (·.size) = some 1 := by kernel_rfl
theorem size25 : (Salg.prog.info? 25).map (·.size) = some 4 := by kernel_rfl
theorem size30 : (Salg.prog.info? 30).map (·.size) = some 72 := by kernel_rfl
theorem size31 : (Salg.prog.info? 31).map (·.size) = some 9 := by kernel_rfl
theorem size46 : (Salg.prog.info? 46).map (·.size) = some 3 := by kernel_rfl
theorem size51 : (Salg.prog.info? 51).map (·.size) = some 64 := by kernel_rfl
theorem size52 : (Salg.prog.info? 52).map (·.size) = some 8 := by kernel_rfl
theorem size93 : (Salg.prog.info? 93).map (·.size) = some 8 := by kernel_rfl
theorem guard22 : Salg.prog.eqGuardType Salg.prog.depth 22 = false := by kernel_rfl
theorem guard25 : Salg.prog.eqGuardType Salg.prog.depth 25 = false := by kernel_rfl
theorem guard31 : Salg.prog.eqGuardType Salg.prog.depth 31 = false := by kernel_rfl
theorem guard46 : Salg.prog.eqGuardType Salg.prog.depth 46 = false := by kernel_rfl
theorem zero22 : (Salg.prog.info? 22).bind (·.zero) = some (Own.A8 (List.replicate 32 0)) := by kernel_rfl
theorem zero25 : (Salg.prog.info? 25).bind (·.zero) = some (Own.A64 (List.replicate 4 0)) := by kernel_rfl
theorem zero31 : (Salg.prog.info? 31).bind (·.zero) = some (Own.A64 (List.replicate 9 0)) := by kernel_rfl
theorem zero52 : (Salg.prog.info? 52).bind (·.zero) = some (Own.A64 (List.replicate 8 0)) := by kernel_rfl
theorem zero46 : (Salg.prog.info? 46).bind (·.zero) = some (Own.A8 (List.replicate 3 0)) := by kernel_rfl
theorem zero93 : (Salg.prog.info? 93).bind (·.zero) = some (Own.A8 (List.replicate 8 0)) := by kernel_rfl
end Go.Proofs.Ygcsal

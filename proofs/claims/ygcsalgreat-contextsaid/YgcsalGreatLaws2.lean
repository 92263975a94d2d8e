/-
  Further laws: clear; a store that turns nothing, inside a stage; one operation out of several that are ready.
-/
import Derived.Test.YgcsalGreatQuiet
import Derived.Test.YgcsalGreatTypes
set_option linter.unusedSimpArgs false
namespace Go.Own
section
variable {P : Program} {ops : Array Oper} {Q : Exit → Act → World → Prop} {a : Act} {w w0 : World} {rest : List Oper} {X : List Nat} {L : List (Nat × Obj)}
theorem kept_put {b : Nat} {o : Obj} (h : b < w.heap.size) (o' : Obj) (_hr : w.heap[b]? = some o) : Kept [b] w (putRow w b o') ∧ (putRow w b o').heap[b]? = some o' :=
  ⟨⟨rfl, rfl, rfl, by simp [putRow], fun k _ hx => putRow_other _ (by simpa using hx)⟩, putRow_row _ h⟩

theorem V_same {F : Act → Prop} {A : Array Oper} {b : Nat} {t : TypeId} {cs : Array Value} {x y : Operand} {ty ty' : TypeId} {pos : String} {after : Array Edge}
    (hx : a.eval x = .pointer (some ⟨b, 0, none⟩)) (hy : a.eval y = .agg cs) (hrow : ∀ w, Mem w0 X L w → w.heap[b]? = some (.cells cs t (0, 0)))
    (hi : (P.info? ty).map (·.size) = some cs.size) (h1 : ∀ u ∈ cs.toList, u.oneCell' = true) (k : LexV P w0 X L A F rest a) :
    LexV P w0 X L A F ({ dst := none, op := .store ty x y, type := ty', pos := pos, after := after, guard := none } :: rest) a := by
  constructor
  have hw : Region.wanted { dst := none, op := .store ty x y, type := ty', pos := pos, after := after, guard := none } (yielded A a.tmps) = true := rfl
  rw [lexQ, if_pos hw]
  refine ⟨undef, fun w hM => ?_, k.out⟩
  rw [run_storeAll (hrow w hM) hx hy hi rfl h1, putRow_same (hrow w hM)]
  exact ⟨rfl, Kept.refl _ _⟩

theorem run_clear64 {x : Operand} {tx e ty' : TypeId} {b n cap : Nat} {t : TypeId} {l : List Nat} {dst : Option Tmp} {pos : String} {after : Array Edge} {g : Option (Nat × Bool)}
    (hx : a.eval x = .slice (some ⟨b, 0, none⟩) n cap) (hn : n ≠ 0) (hu : P.underlying tx = some (.slice e)) (hz : (P.info? e).bind (·.zero) = some (.int .u64 0))
    (hr : w.heap[b]? = some (R64 t l)) (hl : l.length = n) :
    (execOp a.eval { dst := dst, op := .call { callee := .builtin .clear, args := #[x], argTypes := #[tx] }, type := ty', pos := pos, after := after, guard := g }).run P w =
      .ok (.value (.tuple #[])) (putRow w b (R64 t (List.replicate n 0))) := by
  obtain ⟨m, rfl⟩ : ∃ m, n = m + 1 := ⟨n - 1, by omega⟩
  have hstore := run_storeCells_row (P := P) ((List.replicate (m + 1) 0).map n64) (fun v hv => by simp at hv; subst hv; rfl) w b 0 0 (l.map n64).toArray t hr (by simp [hl])
  rw [Nat.add_zero, splice_all (by simp [hl])] at hstore
  have hzc : (Builtin.zeroCells #[Value.int .u64 0] (m + 1)).toList = (List.replicate (m + 1) 0).map n64 := by
    apply List.ext_getElem?
    intro k
    simp only [Builtin.zeroCells]
    by_cases hk : k < m + 1
    · simp [hk, Nat.mod_one, List.getElem?_replicate]
    · simp [hk, List.getElem?_replicate]
  rw [BigFrame.execOp_builtin, BigFrame.builtin_clear]
  cases hq : P.info? e with
  | none => simp [hq] at hz
  | some i =>
    have hsz : i.zero = some (.int .u64 0) := by simpa [hq] using hz
    simp [hx, Builtin.clear_, run_underlying hu, zeroValue, typeInfo, hq, hsz, Value.cells, hzc]
    simp only [List.map_replicate] at hstore
    rw [hstore]
    simp [R64]
theorem W_clear64 {x : Operand} {tx e ty' : TypeId} {b n cap : Nat} {t : TypeId} {l : List Nat} {pos : String} {after : Array Edge}
    (hx : a.eval x = .slice (some ⟨b, 0, none⟩) n cap) (hn : n ≠ 0) (hu : P.underlying tx = some (.slice e)) (hz : (P.info? e).bind (·.zero) = some (.int .u64 0))
    (hr : w.heap[b]? = some (R64 t l)) (hl : l.length = n) (k : ∀ w', Kept [b] w w' → w'.heap[b]? = some (R64 t (List.replicate n 0)) → wpList P ops Q rest a w') :
    wpList P ops Q ({ dst := none, op := .call { callee := .builtin .clear, args := #[x], argTypes := #[tx] }, type := ty', pos := pos, after := after, guard := none } :: rest) a w := by
  obtain ⟨h1, h2⟩ := kept_put (lt_of_row hr) (R64 t (List.replicate n 0)) hr
  exact L_run rfl (run_clear64 hx hn hu hz hr hl) (k _ h1 h2)
theorem W_storeK {b : Nat} {cs vs : Array Value} {t : TypeId} {x y : Operand} {ty ty' : TypeId} {pos : String} {after : Array Edge}
    (hx : a.eval x = .pointer (some ⟨b, 0, none⟩)) (hy : a.eval y = .agg vs) (hr : w.heap[b]? = some (.cells cs t (0, 0)))
    (hi : (P.info? ty).map (·.size) = some cs.size) (hn : vs.size = cs.size) (h1 : ∀ u ∈ vs.toList, u.oneCell' = true)
    (k : ∀ w', Kept [b] w w' → w'.heap[b]? = some (.cells vs t (0, 0)) → wpList P ops Q rest a w') :
    wpList P ops Q ({ dst := none, op := .store ty x y, type := ty', pos := pos, after := after, guard := none } :: rest) a w := by
  obtain ⟨g1, g2⟩ := kept_put (lt_of_row hr) (.cells vs t (0, 0)) hr
  have hrun := run_storeAll (dst := none) (ty' := ty') (pos := pos) (after := after) (g := none) hr hx hy hi hn h1
  exact wpList_plain rfl fun K hK => by unfold Oper.wp; rw [hrun]; exact hK _ _ (k _ g1 g2)
theorem W_st8K {b o m : Nat} {l : List Nat} {n : Int} {t : TypeId} {x y : Operand} {ty ty' : TypeId} {pos : String} {after : Array Edge}
    (hx : a.eval x = .pointer (some ⟨b, o, none⟩)) (hy : a.eval y = .int .u8 n) (hv : n = (m : Nat)) (hr : w.heap[b]? = some (R8 t l))
    (hi : (P.info? ty).map (·.size) = some 1) (hle : o < l.length) (k : ∀ w', Kept [b] w w' → w'.heap[b]? = some (R8 t (l.set o m)) → wpList P ops Q rest a w') :
    wpList P ops Q ({ dst := none, op := .store ty x y, type := ty', pos := pos, after := after, guard := none } :: rest) a w := by
  obtain ⟨g1, g2⟩ := kept_put (lt_of_row hr) (R8 t (l.set o m)) hr
  have hrun := run_storeCell (dst := none) (ty' := ty') (pos := pos) (after := after) (g := none) hr hx hy rfl hi (by simpa using hle)
  subst hv
  rw [set_map] at hrun
  exact wpList_plain rfl fun K hK => by unfold Oper.wp; rw [hrun]; exact hK _ _ (k _ g1 g2)
theorem W_st64K {b o m : Nat} {l : List Nat} {n : Int} {t : TypeId} {x y : Operand} {ty ty' : TypeId} {pos : String} {after : Array Edge}
    (hx : a.eval x = .pointer (some ⟨b, o, none⟩)) (hy : a.eval y = .int .u64 n) (hv : n = (m : Nat)) (hr : w.heap[b]? = some (R64 t l))
    (hi : (P.info? ty).map (·.size) = some 1) (hle : o < l.length) (k : ∀ w', Kept [b] w w' → w'.heap[b]? = some (R64 t (l.set o m)) → wpList P ops Q rest a w') :
    wpList P ops Q ({ dst := none, op := .store ty x y, type := ty', pos := pos, after := after, guard := none } :: rest) a w := by
  obtain ⟨g1, g2⟩ := kept_put (lt_of_row hr) (R64 t (l.set o m)) hr
  have hrun := run_storeCell (dst := none) (ty' := ty') (pos := pos) (after := after) (g := none) hr hx hy rfl hi (by simpa using hle)
  subst hv
  rw [set_map] at hrun
  exact wpList_plain rfl fun K hK => by unfold Oper.wp; rw [hrun]; exact hK _ _ (k _ g1 g2)
end
section
variable {P : Program} {ops : List Oper} {Q : Exit → Act → World → Prop} {a : Act} {w : World}
/-- Several operations are ready: each is tried. -/
theorem S_pick {fuel : Nat} {listed : Array Bool} (i : Nat) (is : List Nat) (hr : Region.ready .any ops.toArray listed = i :: is)
    (h : ∀ j ∈ i :: is, wpOp P ops.toArray Q j (wpAny P .any ops.toArray Q fuel (listed.setIfInBounds j true)) a w) : wpAny P .any ops.toArray Q (fuel + 1) listed a w := by
  rw [wpAny, hr]
  exact ⟨fun h => by simp at h, h⟩
theorem S_end {fuel : Nat} {listed : Array Bool} (hr : Region.ready .any ops.toArray listed = []) (h : Q .normal a w) : wpAny P .any ops.toArray Q fuel listed a w := by
  cases fuel with
  | zero => exact ⟨hr, h⟩
  | succ n => rw [wpAny, hr]; exact ⟨fun _ => h, by simp⟩
theorem S_op {i : Nat} {o : Oper} {K : Act → World → Prop} (ho : ops[i]? = some o) (hg : o.guard = none) (h : wpList P ops.toArray (Exit.then K Q) [o] a w) : wpOp P ops.toArray Q i K a w := by
  unfold wpOp
  simp only [List.getElem?_toArray, ho]
  have hw : Region.wanted o (yielded ops.toArray a.tmps) = true := by simp [Region.wanted, hg]
  rw [if_pos hw]
  rw [wpList, if_pos hw] at h
  rcases h with h | ⟨h, a', w', hl⟩
  · exact .inl (Oper.wp_then (fun a w h => by simpa [wpList, Exit.then] using h) h)
  · exact .inr ⟨h, a', w', hl⟩
theorem S_pick1 {fuel : Nat} {listed : Array Bool} (i : Nat) (hr : Region.ready .any ops.toArray listed = [i])
    (h : wpOp P ops.toArray Q i (wpAny P .any ops.toArray Q fuel (listed.setIfInBounds i true)) a w) : wpAny P .any ops.toArray Q (fuel + 1) listed a w :=
  S_pick i [] hr (by intro j hj; simp at hj; subst hj; exact h)
theorem S_pick2 {fuel : Nat} {listed : Array Bool} (i i2 : Nat) (hr : Region.ready .any ops.toArray listed = [i, i2])
    (h : wpOp P ops.toArray Q i (wpAny P .any ops.toArray Q fuel (listed.setIfInBounds i true)) a w)
    (h2 : wpOp P ops.toArray Q i2 (wpAny P .any ops.toArray Q fuel (listed.setIfInBounds i2 true)) a w) : wpAny P .any ops.toArray Q (fuel + 1) listed a w :=
  S_pick i [i2] hr (by intro j hj; simp at hj; rcases hj with rfl | rfl; exact h; exact h2)
theorem S_pick3 {fuel : Nat} {listed : Array Bool} (i i2 i3 : Nat) (hr : Region.ready .any ops.toArray listed = [i, i2, i3])
    (h : wpOp P ops.toArray Q i (wpAny P .any ops.toArray Q fuel (listed.setIfInBounds i true)) a w)
    (h2 : wpOp P ops.toArray Q i2 (wpAny P .any ops.toArray Q fuel (listed.setIfInBounds i2 true)) a w)
    (h3 : wpOp P ops.toArray Q i3 (wpAny P .any ops.toArray Q fuel (listed.setIfInBounds i3 true)) a w) : wpAny P .any ops.toArray Q (fuel + 1) listed a w :=
  S_pick i [i2, i3] hr (by intro j hj; simp at hj; rcases hj with rfl | rfl | rfl; exact h; exact h2; exact h3)
theorem S_val {i : Nat} {o : Oper} {K : Act → World → Prop} {v : Value} (ho : ops[i]? = some o) (hg : o.guard = none) (hr : (execOp a.eval o).run P w = .ok (.value v) w) (k : K (a.put o.dst v) w) : wpOp P ops.toArray Q i K a w := by
  unfold wpOp
  simp only [List.getElem?_toArray, ho]
  have hw : Region.wanted o (yielded ops.toArray a.tmps) = true := by simp [Region.wanted, hg]
  rw [if_pos hw]
  left
  unfold Oper.wp
  rw [hr]
  exact k
theorem S_sto {i : Nat} {o : Oper} {K : Act → World → Prop} {w' : World} (ho : ops[i]? = some o) (hg : o.guard = none) (hr : (execOp a.eval o).run P w = .ok .skip w') (k : K (a.put o.dst undef) w') : wpOp P ops.toArray Q i K a w := by
  unfold wpOp
  simp only [List.getElem?_toArray, ho]
  have hw : Region.wanted o (yielded ops.toArray a.tmps) = true := by simp [Region.wanted, hg]
  rw [if_pos hw]
  left
  unfold Oper.wp
  rw [hr]
  exact k
end
end Go.Own

/-
  The walk of law.copiesHolds (what it needs).
-/
import Derived.Test.YgcsalGreatCp45
import Derived.Test.YgcsalGreatCp36
import Derived.Test.YgcsalGreatSl40
import Derived.Test.YgcsalGreatCp18
set_option linter.unusedSimpArgs false
set_option linter.unusedVariables false
namespace Go.Own
theorem ffs_set {i : Nat} (h : i < 128) : (ffs i ++ List.replicate (128 - i) 0).set i 255 = ffs (i + 1) ++ List.replicate (128 - (i + 1)) 0 := by
  unfold ffs
  rw [List.set_append_right _ _ (by simp), show 128 - i = (128 - (i + 1)) + 1 by omega, List.replicate_succ, List.replicate_succ', List.append_assoc]
  simp
theorem cutB_take {ds : List Nat} {m : Nat} (h : m ≤ ds.length) : cutB ds 0 m = ds.take m := by
  simp [cutB, Nat.sub_eq_zero_of_le h]
theorem W_minI {P : Program} {ops : Array Oper} {Q : Exit → Act → World → Prop} {rest : List Oper} {a : Act} {w : World} {d : Tmp} {ty : TypeId} {x y : Operand} {ts : Array TypeId} {pos : String} {after : Array Edge} {m n k : Nat}
    (hx : a.eval x = .int .i64 (m : Int)) (hy : a.eval y = .int .i64 (n : Int)) (hk : k = min m n) (c : wpList P ops Q rest (a.put (some d) (.int .i64 (k : Int))) w) :
    wpList P ops Q ({ dst := some d, op := .call { callee := .builtin .min, args := #[x, y], argTypes := ts }, type := ty, pos := pos, after := after, guard := none } :: rest) a w := by
  refine L_run rfl ?_ c
  simp only [execOp, resolve, invoke, builtin, Builtin.min_, Builtin.min2, Sem.run_bind, Sem.run_pure, Result.andThen_ok, List.map_toArray, List.map_cons, List.map_nil, hx, hy, List.foldlM_cons, List.foldlM_nil]
  subst hk
  rcases Nat.lt_or_ge n m with h | h
  · simp [h, Nat.min_eq_right (Nat.le_of_lt h)]
  · simp [Nat.min_eq_left h, Nat.not_lt.2 h]
end Go.Own
namespace Go.Proofs.YgcsalGreat
open Go.RowKit Go.Own
theorem out_at {w : World} {ou : Value} {want : List Nat} {n : Nat} (hou : NatV w ou want) (hl : want.length = n) (h0 : 0 < n) : ∃ (b t ocap : Nat) (cs : Array Value), ou = .slice (some ⟨b, 0, none⟩) n ocap ∧ w.heap[b]? = some (.cells cs t (0, 0)) ∧ ∀ (j z : Nat), want[j]? = some z → cs[0 + j]? = some (n8 z) := by
  obtain ⟨p, cp, rfl, _, _, hd, _⟩ := hou
  rcases hd with h | ⟨b, t, cs, rfl, h2, r, rfl⟩
  · rw [h] at hl; simp at hl; omega
  · refine ⟨b, t, cp, (((want ++ r)).map n8).toArray, by rw [hl], h2, ?_⟩
    intro j z hj
    rw [Nat.zero_add, List.getElem?_toArray, List.getElem?_map, List.getElem?_append_left (List.getElem?_eq_some_iff.1 hj).1, hj]
    rfl
theorem want_at (want : List Nat) : ∀ (j z : Nat), want[j]? = some z → (want.map n8).toArray[0 + j]? = some (n8 z) := by
  intro j z hj
  rw [Nat.zero_add, List.getElem?_toArray, List.getElem?_map, hj]
  rfl
theorem rc0 (u o : Value) : (rcL u o).toArray[0]? = some (.int .u8 0) := by kernel_rfl
theorem rc1 (u o : Value) : (rcL u o).toArray[1]? = some (.int .u8 0) := by kernel_rfl
theorem rc3 (u o : Value) : (rcL u o).toArray[3]? = some o := by kernel_rfl
theorem rf0 (u o : Value) : (rcF u o).toArray[0]? = some (.int .u8 0) := by kernel_rfl
theorem rf1 (u o : Value) : (rcF u o).toArray[1]? = some (.int .u8 8) := by kernel_rfl
theorem rf3 (u o : Value) : (rcF u o).toArray[3]? = some o := by kernel_rfl
end Go.Proofs.YgcsalGreat

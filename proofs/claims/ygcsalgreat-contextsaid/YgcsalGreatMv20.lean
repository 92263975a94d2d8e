/-
  make([]T, n) where T takes one cell, or several.
-/
import Derived.Test.YgcsalGreatMv19
import Derived.Test.YgcsalGreatMv12
set_option linter.unusedSimpArgs false
set_option linter.unusedVariables false
namespace Go.Own
section
variable {P : Program} {ops : Array Oper} {Q : Exit → Act → World → Prop} {rest : List Oper} {a : Act} {w w0 : World} {X : List Nat} {L : List (Nat × Obj)}
theorem run_makeV {l c : Operand} {t e ty' : TypeId} {i j : Int} {ki kj : IntKind} {n s by1 : Nat} {z : Value} {dst : Option Tmp} {pos : String} {after : Array Edge} {g : Option (Nat × Bool)}
    (hl : a.eval l = .int ki i) (hc : a.eval c = .int kj j) (hi : i = (n : Nat)) (hj : j = (n : Nat)) (hn : n ≤ 100) (hu : P.underlying t = some (.slice e))
    (he : (P.info? e).map (fun i => (i.zero, i.size, i.bytes)) = some (some z, s, by1)) (hzs : z.cells.size = s) (hs : 0 < s) (hs2 : s ≤ 1000) (hby : by1 ≤ 1000) :
    (execOp a.eval { dst := dst, op := .makeSlice t l c, type := ty', pos := pos, after := after, guard := g }).run P w =
      .ok (.value (.slice (some ⟨w.heap.size, 0, none⟩) n n)) { w with heap := w.heap.push (.cells ((Array.range (n * s)).map (fun x => z.cells[x % s]!)) e (0, 0)) } := by
  subst hi hj
  cases hq : P.info? e with
  | none => simp [hq] at he
  | some inf =>
    simp only [hq, Option.map_some, Option.some.injEq, Prod.mk.injEq] at he
    obtain ⟨h1, h2, h3⟩ := he
    subst h2
    subst h3
    have hw : IntKind.i64.wrap (n : Int) = (n : Int) := by simp [IntKind.wrap, IntKind.bits, IntKind.signed]; omega
    have hnt : ¬ ((n : Int) < 0) := by omega
    have hm : n * inf.bytes ≤ 100 * 1000 := Nat.mul_le_mul hn hby
    have hb : ¬ (281474976710656 < (inf.bytes : Int) * (n : Int)) := by
      have : ((n * inf.bytes : Nat) : Int) = (inf.bytes : Int) * (n : Int) := by rw [Int.natCast_mul, Int.mul_comm]
      omega
    have haskroom : ∀ k, (askRoom k).run P w = .ok () w := by intro k; unfold askRoom; split <;> rfl
    by_cases hz : n = 0
    · subst hz
      have hw0 : IntKind.i64.wrap 0 = 0 := by decide
      simp [execOp, hl, hc, Instr.makeSlice, asInt, asIntOf, Sem.run_bind, run_underlying hu, typeInfo, hq, h1, hw0, sizeOf, haskroom, newRow, newObj, Sem.run, zeroValue]
      have e1 : Array.map (fun _ : Nat => (default : Value)) (Array.range 0) = #[] := Array.eq_empty_of_size_eq_zero (by simp)
      have e2 : Array.map (fun x : Nat => z.cells[x % inf.size]!) (Array.range 0) = #[] := Array.eq_empty_of_size_eq_zero (by simp)
      rw [e1, e2]
    · have hz2 : ¬ (n * inf.size = 0) := by
        have := Nat.mul_pos (Nat.pos_of_ne_zero hz) hs
        omega
      have hz3 : ¬ (n = 0 ∨ inf.size = 0) := by omega
      simp [execOp, hl, hc, Instr.makeSlice, asInt, asIntOf, Sem.run_bind, run_underlying hu, typeInfo, hq, h1, hzs, hw, hnt, hb, sizeOf, haskroom, newRow, newObj, Sem.run, zeroValue, hz, hz2, hz3]
theorem W_makeV {l c : Operand} {t e ty' : TypeId} {i j : Int} {ki kj : IntKind} {n s by1 : Nat} {z : Value} {dst : Tmp} {pos : String} {after : Array Edge} {cs : Array Value} (M : Mem w0 X L w)
    (hl : a.eval l = .int ki i) (hc : a.eval c = .int kj j) (hi : i = (n : Nat)) (hj : j = (n : Nat)) (hn : n ≤ 100) (hu : P.underlying t = some (.slice e))
    (he : (P.info? e).map (fun i => (i.zero, i.size, i.bytes)) = some (some z, s, by1)) (hzs : z.cells.size = s) (hs : 0 < s) (hs2 : s ≤ 1000) (hby : by1 ≤ 1000) (hcs : (Array.range (n * s)).map (fun x => z.cells[x % s]!) = cs)
    (k : ∀ b w', w0.heap.size ≤ b → w.heap.size ≤ b → Kept [] w w' → Mem w0 X ((b, .cells cs e (0, 0)) :: L) w' → wpList P ops Q rest (a.put (some dst) (.slice (some ⟨b, 0, none⟩) n n)) w') :
    wpList P ops Q ({ dst := some dst, op := .makeSlice t l c, type := ty', pos := pos, after := after, guard := none } :: rest) a w := by
  subst hcs
  have ⟨h1, h2⟩ := M.alloc (.cells ((Array.range (n * s)).map (fun x => z.cells[x % s]!)) e (0, 0))
  exact L_run rfl (run_makeV hl hc hi hj hn hu he hzs hs hs2 hby) (k _ _ h1 (Nat.le_refl _) ((Mem.start w []).alloc _).2.kept h2)
theorem range1 (n : Nat) (z : Value) (hz : z.cells = #[z]) : (Array.range (n * 1)).map (fun x => z.cells[x % 1]!) = (List.replicate n z).toArray := by
  apply Array.ext_getElem?
  intro k
  by_cases hk : k < n
  · simp [hk, Nat.mod_one, hz]
  · simp [hk]
end
end Go.Own
namespace Go.Proofs.YgcsalGreat
open Go.RowKit Go.Own
theorem info89 : (Salg.prog.info? 89).map (fun i => (i.zero, i.size, i.bytes)) = some (some (.slice none 0 0), 1, 24) := by kernel_rfl
theorem zsome89 : ((Salg.prog.info? 89).bind (·.zero)).isSome = true := by kernel_rfl
end Go.Proofs.YgcsalGreat

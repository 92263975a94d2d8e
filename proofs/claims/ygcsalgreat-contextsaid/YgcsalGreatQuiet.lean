/-
  The steps of a stage's walk once more, behind a structure (so that no unifier unfolds the walk).
-/
import Derived.Test.YgcsalGreatOrder
set_option linter.unusedSimpArgs false
namespace Go.Own
structure LexV (P : Program) (w0 : World) (X : List Nat) (L : List (Nat × Obj)) (ops : Array Oper) (F : Act → Prop) (l : List Oper) (a : Act) : Prop where
  out : lexQ P w0 X L ops F l a
section
variable {P : Program} {w0 : World} {X : List Nat} {L : List (Nat × Obj)} {ops : List Oper} {Q : Exit → Act → World → Prop}
theorem V_quiet {a : Act} {w : World} (m m2 : Nat) (hB : stageB ops m m2 = true) (hm : m ≤ m2) (M : Mem w0 X L w)
    (h : LexV P w0 X L ops.toArray (fun a1 => ∀ w', Mem w0 X L w' → wpAny P .any ops.toArray Q (ops.length - m2) (upTo m2 ops.length) a1 w') ((ops.drop m).take (m2 - m)) a) :
    wpAny P .any ops.toArray Q (ops.length - m) (upTo m ops.length) a w := S_quiet m m2 hB hm M h.out
theorem V_nil {F : Act → Prop} {a : Act} {A : Array Oper} (h : F a) : LexV P w0 X L A F [] a := ⟨Q_nil h⟩
theorem V_run {F : Act → Prop} {a : Act} {rest : List Oper} {o : Oper} {v : Value} {A : Array Oper} (hw : Region.wanted o (yielded A a.tmps) = true) (hr : ∀ w, Mem w0 X L w → (execOp a.eval o).run P w = .ok (.value v) w)
    (k : LexV P w0 X L A F rest (a.put o.dst v)) : LexV P w0 X L A F (o :: rest) a := ⟨Q_run hw hr k.out⟩
theorem V_no {F : Act → Prop} {a : Act} {rest : List Oper} {o : Oper} {A : Array Oper} (hw : Region.wanted o (yielded A a.tmps) = false) (k : LexV P w0 X L A F rest (a.put o.dst undef)) : LexV P w0 X L A F (o :: rest) a :=
  ⟨Q_no hw k.out⟩
theorem V_call {F : Act → Prop} {a : Act} {rest : List Oper} {A : Array Oper} {dst : Option Tmp} {f : FuncId} {xs : List Operand} {ats : Array TypeId} {ty : TypeId} {pos : String} {after : Array Edge} {g : Option (Nat × Bool)} {fn : Func} {v : Value} {args : List Value}
    (hw : Region.wanted { dst := dst, op := .call { callee := .value (.func f), args := xs.toArray, argTypes := ats }, type := ty, pos := pos, after := after, guard := g } (yielded A a.tmps) = true)
    (hfn : P.funcs[f]? = some fn) (hn : (fn.name == "runtime.NumGoroutine") = false) (hb : fn.body.isNone = false) (hargs : xs.map a.eval = args)
    (hc : ∀ w, Mem w0 X L w → Calls P f args.toArray w fun e w' => e = .returned v ∧ Kept [] w w') (k : LexV P w0 X L A F rest (a.put dst v)) :
    LexV P w0 X L A F ({ dst := dst, op := .call { callee := .value (.func f), args := xs.toArray, argTypes := ats }, type := ty, pos := pos, after := after, guard := g } :: rest) a :=
  ⟨Q_call hw hfn hn hb hargs hc k.out⟩
end
end Go.Own

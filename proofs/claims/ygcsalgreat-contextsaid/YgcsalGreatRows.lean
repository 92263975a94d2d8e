/-
  No cell of these rows narrows 'for every input' (looked for: loops, veiled, ifaces, maps, wideKeys, modest, calm, conditions, laid).
  DERIVED. THE GIVEN ROWS OF THIS SEAT. 5 by the template 'for every input the law returns true; each argument reads behind the call as it read before'; 0 by the template 'total and deterministic' (their statements: YgcsalGreatTotals.lean).
  GIVEN WITH THE SEED: the statements are not yours to turn. If you find one false, say at which input.
  Laid BY PROGRAM, IN A SANDBOX (cutbox-rows.mjs): the forced cells as the released guide's own fill.sh prints them over the translation 0786efb5ae01850c… (all of the seat's roots in one cut). By AI agents, Wed Nov 11 2026. No macro, syntax, notation, axiom, sorry.
-/
import Derived.Test.YgcsalGreatChecked
import GoSem.Claim
import GoSem.ClaimJoined
import GoSem.ClaimMapViews
import Derived.JoinedTies
import Derived.KernelRfl
namespace Go.Proofs.YgcsalGreat
/- THE CELL 'sum', in the pinned program and in every row, IS THE sha256 OF THE DUMP (.gsa) THAT YgcsalGreatProg.lean LOADS. Nothing in Lean hashes anything: it is a label: what it is worth is what the hold of that sum in a sandbox is worth. -/
noncomputable def Salg.pinned : Pinned := { name := "ygcsalgreat", sum := "0786efb5ae01850c03c6184595fa20f6597256e3ef94f26984994df0000495a4", checked := Salg.checked }
namespace Rows
def none {H : Type} : Left H := { results := [], args := [] }

/-- 'law.WordRefines': WHATEVER THE INPUT: true; the input reads as it did. -/
def wordRefinesSpec : ChangeSpec := { name := "wordRefines", fn := fun _ => fun
  | [d1, d2, d3, d4] => { results := [.lit (.bool true)], args := [d1, d2, d3, d4] }
  | _ => none }
def wordRefinesRow : OpenClaim := { program := "ygcsalgreat", sum := "0786efb5ae01850c03c6184595fa20f6597256e3ef94f26984994df0000495a4", func := "yellow/law.WordRefines", spec := "wordRefines", inPlace := ["math/bits.Add64", "math/bits.Sub64"], named := ["math/bits.divideError", "math/bits.overflowError"], apart := false }
def WordRefinesSaid : Prop := wordRefinesRow.holds Salg.pinned (OpenSpec.ofChange wordRefinesSpec)

/-- ITS FALSE NEIGHBOUR: 'it returns false'. Refute it at one input. -/
def wordRefinesWrong : ChangeSpec := { name := "wordRefines", fn := fun _ => fun
  | [d1, d2, d3, d4] => { results := [.lit (.bool false)], args := [d1, d2, d3, d4] }
  | _ => none }
def WordRefinesWrongFalsely : Prop := wordRefinesRow.holds Salg.pinned (OpenSpec.ofChange wordRefinesWrong)

/-- 'law.Moves': WHATEVER THE INPUT: true; the input reads as it did. -/
def movesSpec : ChangeSpec := { name := "moves", fn := fun _ => fun
  | [d1, d2, d3, d4, d5] => { results := [.lit (.bool true)], args := [d1, d2, d3, d4, d5] }
  | _ => none }
def movesRow : OpenClaim := { program := "ygcsalgreat", sum := "0786efb5ae01850c03c6184595fa20f6597256e3ef94f26984994df0000495a4", func := "yellow/law.Moves", spec := "moves", apart := false }
def MovesSaid : Prop := movesRow.holds Salg.pinned (OpenSpec.ofChange movesSpec)

/-- ITS FALSE NEIGHBOUR: 'it returns false'. Refute it at one input. -/
def movesWrong : ChangeSpec := { name := "moves", fn := fun _ => fun
  | [d1, d2, d3, d4, d5] => { results := [.lit (.bool false)], args := [d1, d2, d3, d4, d5] }
  | _ => none }
def MovesWrongFalsely : Prop := movesRow.holds Salg.pinned (OpenSpec.ofChange movesWrong)

/-- 'law.Copies': WHATEVER THE INPUT: true; the input reads as it did. -/
def copiesSpec : ChangeSpec := { name := "copies", fn := fun _ => fun
  | [d1, d2, d3, d4, d5, d6] => { results := [.lit (.bool true)], args := [d1, d2, d3, d4, d5, d6] }
  | _ => none }
def copiesRow : OpenClaim := { program := "ygcsalgreat", sum := "0786efb5ae01850c03c6184595fa20f6597256e3ef94f26984994df0000495a4", func := "yellow/law.Copies", spec := "copies", apart := false }
def CopiesSaid : Prop := copiesRow.holds Salg.pinned (OpenSpec.ofChange copiesSpec)

/-- ITS FALSE NEIGHBOUR: 'it returns false'. Refute it at one input. -/
def copiesWrong : ChangeSpec := { name := "copies", fn := fun _ => fun
  | [d1, d2, d3, d4, d5, d6] => { results := [.lit (.bool false)], args := [d1, d2, d3, d4, d5, d6] }
  | _ => none }
def CopiesWrongFalsely : Prop := copiesRow.holds Salg.pinned (OpenSpec.ofChange copiesWrong)

/-- 'law.Context': WHATEVER THE INPUT: true; the input reads as it did. -/
def contextSpec : ChangeSpec := { name := "context", fn := fun _ => fun
  | [d1, d2, d3] => { results := [.lit (.bool true)], args := [d1, d2, d3] }
  | _ => none }
def contextRow : OpenClaim := { program := "ygcsalgreat", sum := "0786efb5ae01850c03c6184595fa20f6597256e3ef94f26984994df0000495a4", func := "yellow/law.Context", spec := "context", apart := false }
def ContextSaid : Prop := contextRow.holds Salg.pinned (OpenSpec.ofChange contextSpec)

/-- ITS FALSE NEIGHBOUR: 'it returns false'. Refute it at one input. -/
def contextWrong : ChangeSpec := { name := "context", fn := fun _ => fun
  | [d1, d2, d3] => { results := [.lit (.bool false)], args := [d1, d2, d3] }
  | _ => none }
def ContextWrongFalsely : Prop := contextRow.holds Salg.pinned (OpenSpec.ofChange contextWrong)

/-- 'law.StoreLoad': WHATEVER THE INPUT: true; the input reads as it did. -/
def storeLoadSpec : ChangeSpec := { name := "storeLoad", fn := fun _ => fun
  | [d1, d2, d3, d4] => { results := [.lit (.bool true)], args := [d1, d2, d3, d4] }
  | _ => none }
def storeLoadRow : OpenClaim := { program := "ygcsalgreat", sum := "0786efb5ae01850c03c6184595fa20f6597256e3ef94f26984994df0000495a4", func := "yellow/law.StoreLoad", spec := "storeLoad", apart := false }
def StoreLoadSaid : Prop := storeLoadRow.holds Salg.pinned (OpenSpec.ofChange storeLoadSpec)

/-- ITS FALSE NEIGHBOUR: 'it returns false'. Refute it at one input. -/
def storeLoadWrong : ChangeSpec := { name := "storeLoad", fn := fun _ => fun
  | [d1, d2, d3, d4] => { results := [.lit (.bool false)], args := [d1, d2, d3, d4] }
  | _ => none }
def StoreLoadWrongFalsely : Prop := storeLoadRow.holds Salg.pinned (OpenSpec.ofChange storeLoadWrong)

end Rows
end Go.Proofs.YgcsalGreat

/-
  No cell of these rows narrows 'for every input' (looked for: loops, veiled, ifaces, maps, wideKeys, modest, calm, conditions, laid).
  DERIVED. THE GIVEN ROWS OF THIS SEAT. 7 by the template 'for every input the law returns true; each argument reads behind the call as it read before'; 0 by the template 'total and deterministic' (their statements: YgcsalTotals.lean).
  GIVEN WITH THE SEED: the statements are not yours to turn. If you find one false, say at which input.
  Laid BY PROGRAM, IN A SANDBOX (cutbox-rows.mjs): the forced cells as the released guide's own fill.sh prints them over the translation 20071b82433e5929… (all of the seat's roots in one cut). By AI agents, Wed Nov 11 2026. No macro, syntax, notation, axiom, sorry.
-/
import Derived.Test.YgcsalChecked
import GoSem.Claim
import GoSem.ClaimJoined
import GoSem.ClaimMapViews
import Derived.JoinedTies
import Derived.KernelRfl
namespace Go.Proofs.Ygcsal
/- THE CELL 'sum', in the pinned program and in every row, IS THE sha256 OF THE DUMP (.gsa) THAT YgcsalProg.lean LOADS. Nothing in Lean hashes anything: it is a label: what it is worth is what the hold of that sum in a sandbox is worth. -/
noncomputable def Salg.pinned : Pinned := { name := "ygcsal", sum := "20071b82433e592939b322f53b451a0a4f5569d800ada0d5ddaed087ee9d6329", checked := Salg.checked }
namespace Rows
def none {H : Type} : Left H := { results := [], args := [] }

/-- 'law.WordBack': WHATEVER THE INPUT: true; the input reads as it did. -/
def wordBackSpec : ChangeSpec := { name := "wordBack", fn := fun _ => fun
  | [d] => { results := [.lit (.bool true)], args := [d] }
  | _ => none }
def wordBackRow : OpenClaim := { program := "ygcsal", sum := "20071b82433e592939b322f53b451a0a4f5569d800ada0d5ddaed087ee9d6329", func := "yellow/law.WordBack", spec := "wordBack", apart := false }
def WordBackSaid : Prop := wordBackRow.holds Salg.pinned (OpenSpec.ofChange wordBackSpec)

/-- ITS FALSE NEIGHBOUR: 'it returns false'. Refute it at one input. -/
def wordBackWrong : ChangeSpec := { name := "wordBack", fn := fun _ => fun
  | [d] => { results := [.lit (.bool false)], args := [d] }
  | _ => none }
def WordBackWrongFalsely : Prop := wordBackRow.holds Salg.pinned (OpenSpec.ofChange wordBackWrong)

/-- 'law.DivMidRight': WHATEVER THE INPUT: true; the input reads as it did. -/
def divMidRightSpec : ChangeSpec := { name := "divMidRight", fn := fun _ => fun
  | [d1, d2, d3, d4] => { results := [.lit (.bool true)], args := [d1, d2, d3, d4] }
  | _ => none }
def divMidRightRow : OpenClaim := { program := "ygcsal", sum := "20071b82433e592939b322f53b451a0a4f5569d800ada0d5ddaed087ee9d6329", func := "yellow/law.DivMidRight", spec := "divMidRight", apart := false }
def DivMidRightSaid : Prop := divMidRightRow.holds Salg.pinned (OpenSpec.ofChange divMidRightSpec)

/-- ITS FALSE NEIGHBOUR: 'it returns false'. Refute it at one input. -/
def divMidRightWrong : ChangeSpec := { name := "divMidRight", fn := fun _ => fun
  | [d1, d2, d3, d4] => { results := [.lit (.bool false)], args := [d1, d2, d3, d4] }
  | _ => none }
def DivMidRightWrongFalsely : Prop := divMidRightRow.holds Salg.pinned (OpenSpec.ofChange divMidRightWrong)

/-- 'law.NormShift': WHATEVER THE INPUT: true; the input reads as it did. -/
def normShiftSpec : ChangeSpec := { name := "normShift", fn := fun _ => fun
  | [d1, d2, d3] => { results := [.lit (.bool true)], args := [d1, d2, d3] }
  | _ => none }
def normShiftRow : OpenClaim := { program := "ygcsal", sum := "20071b82433e592939b322f53b451a0a4f5569d800ada0d5ddaed087ee9d6329", func := "yellow/law.NormShift", spec := "normShift", apart := false }
def NormShiftSaid : Prop := normShiftRow.holds Salg.pinned (OpenSpec.ofChange normShiftSpec)

/-- ITS FALSE NEIGHBOUR: 'it returns false'. Refute it at one input. -/
def normShiftWrong : ChangeSpec := { name := "normShift", fn := fun _ => fun
  | [d1, d2, d3] => { results := [.lit (.bool false)], args := [d1, d2, d3] }
  | _ => none }
def NormShiftWrongFalsely : Prop := normShiftRow.holds Salg.pinned (OpenSpec.ofChange normShiftWrong)

/-- 'law.RoundRight': WHATEVER THE INPUT: true; the input reads as it did. -/
def roundRightSpec : ChangeSpec := { name := "roundRight", fn := fun _ => fun
  | [d1, d2, d3, d4] => { results := [.lit (.bool true)], args := [d1, d2, d3, d4] }
  | _ => none }
def roundRightRow : OpenClaim := { program := "ygcsal", sum := "20071b82433e592939b322f53b451a0a4f5569d800ada0d5ddaed087ee9d6329", func := "yellow/law.RoundRight", spec := "roundRight", inPlace := ["math/bits.Add64", "math/bits.Sub64"], named := ["math/bits.divideError", "math/bits.overflowError"], apart := false }
def RoundRightSaid : Prop := roundRightRow.holds Salg.pinned (OpenSpec.ofChange roundRightSpec)

/-- ITS FALSE NEIGHBOUR: 'it returns false'. Refute it at one input. -/
def roundRightWrong : ChangeSpec := { name := "roundRight", fn := fun _ => fun
  | [d1, d2, d3, d4] => { results := [.lit (.bool false)], args := [d1, d2, d3, d4] }
  | _ => none }
def RoundRightWrongFalsely : Prop := roundRightRow.holds Salg.pinned (OpenSpec.ofChange roundRightWrong)

/-- 'law.DivRounds': WHATEVER THE INPUT: true; the input reads as it did. -/
def divRoundsSpec : ChangeSpec := { name := "divRounds", fn := fun _ => fun
  | [d1, d2] => { results := [.lit (.bool true)], args := [d1, d2] }
  | _ => none }
def divRoundsRow : OpenClaim := { program := "ygcsal", sum := "20071b82433e592939b322f53b451a0a4f5569d800ada0d5ddaed087ee9d6329", func := "yellow/law.DivRounds", spec := "divRounds", inPlace := ["math/bits.Add64", "math/bits.Sub64"], named := ["math/bits.divideError", "math/bits.overflowError"], apart := false }
def DivRoundsSaid : Prop := divRoundsRow.holds Salg.pinned (OpenSpec.ofChange divRoundsSpec)

/-- ITS FALSE NEIGHBOUR: 'it returns false'. Refute it at one input. -/
def divRoundsWrong : ChangeSpec := { name := "divRounds", fn := fun _ => fun
  | [d1, d2] => { results := [.lit (.bool false)], args := [d1, d2] }
  | _ => none }
def DivRoundsWrongFalsely : Prop := divRoundsRow.holds Salg.pinned (OpenSpec.ofChange divRoundsWrong)

/-- 'law.WideRight': WHATEVER THE INPUT: true; the input reads as it did. -/
def wideRightSpec : ChangeSpec := { name := "wideRight", fn := fun _ => fun
  | [d1, d2, d3, d4] => { results := [.lit (.bool true)], args := [d1, d2, d3, d4] }
  | _ => none }
def wideRightRow : OpenClaim := { program := "ygcsal", sum := "20071b82433e592939b322f53b451a0a4f5569d800ada0d5ddaed087ee9d6329", func := "yellow/law.WideRight", spec := "wideRight", inPlace := ["math/bits.Add64", "math/bits.Sub64"], named := ["math/bits.divideError", "math/bits.overflowError"], apart := false }
def WideRightSaid : Prop := wideRightRow.holds Salg.pinned (OpenSpec.ofChange wideRightSpec)

/-- ITS FALSE NEIGHBOUR: 'it returns false'. Refute it at one input. -/
def wideRightWrong : ChangeSpec := { name := "wideRight", fn := fun _ => fun
  | [d1, d2, d3, d4] => { results := [.lit (.bool false)], args := [d1, d2, d3, d4] }
  | _ => none }
def WideRightWrongFalsely : Prop := wideRightRow.holds Salg.pinned (OpenSpec.ofChange wideRightWrong)

/-- 'law.DivKnown': WHATEVER THE INPUT: true; the input reads as it did. -/
def divKnownSpec : ChangeSpec := { name := "divKnown", fn := fun _ => fun
  | [] => { results := [.lit (.bool true)], args := [] }
  | _ => none }
def divKnownRow : OpenClaim := { program := "ygcsal", sum := "20071b82433e592939b322f53b451a0a4f5569d800ada0d5ddaed087ee9d6329", func := "yellow/law.DivKnown", spec := "divKnown", inPlace := ["math/bits.Add64", "math/bits.Sub64"], named := ["math/bits.divideError", "math/bits.overflowError"], apart := false }
def DivKnownSaid : Prop := divKnownRow.holds Salg.pinned (OpenSpec.ofChange divKnownSpec)

/-- ITS FALSE NEIGHBOUR: 'it returns false'. Refute it at one input. -/
def divKnownWrong : ChangeSpec := { name := "divKnown", fn := fun _ => fun
  | [] => { results := [.lit (.bool false)], args := [] }
  | _ => none }
def DivKnownWrongFalsely : Prop := divKnownRow.holds Salg.pinned (OpenSpec.ofChange divKnownWrong)

end Rows
end Go.Proofs.Ygcsal

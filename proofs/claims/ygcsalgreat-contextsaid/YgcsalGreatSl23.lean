/-
  op.Family, yp.arity and op.Imm at SSTORE, SLOAD, MSTORE, RETURN, DELEGATECALL, STOP, REVERT, INVALID.
-/
import Derived.Test.YgcsalGreatMv16
set_option linter.unusedSimpArgs false
set_option linter.unusedVariables false
namespace Go.Proofs.YgcsalGreat
open Go.RowKit Go.Own

set_option maxHeartbeats 4000000 in
set_option maxRecDepth 100000 in
theorem family_sstore (w : World) : Calls Salg.prog 118 #[.int .u8 85] w fun e w' => e = .returned (.int .u8 8) ∧ w' = w := by
  go_enter Salg.func118, Salg.ntmps118
  go_wp2_with fail
  go_ret
  exact ⟨rfl, rfl⟩

set_option maxHeartbeats 4000000 in
set_option maxRecDepth 100000 in
theorem arity_sstore (w : World) : Calls Salg.prog 181 #[.int .u8 85] w fun e w' => e = .returned (.tuple #[.int .i64 2, .int .i64 0, .bool true]) ∧ w' = w := by
  have HF := hid (family_sstore w)
  go_enter Salg.func181, Salg.ntmps181
  go_wp2_with fail
  refine HF.out.mono ?_
  rintro e w1 ⟨rfl, rfl⟩
  go_wp2_with fail
  go_ret3
  exact ⟨rfl, rfl⟩

set_option maxHeartbeats 4000000 in
set_option maxRecDepth 100000 in
theorem family_sload (w : World) : Calls Salg.prog 118 #[.int .u8 84] w fun e w' => e = .returned (.int .u8 8) ∧ w' = w := by
  go_enter Salg.func118, Salg.ntmps118
  go_wp2_with fail
  go_ret
  exact ⟨rfl, rfl⟩

set_option maxHeartbeats 4000000 in
set_option maxRecDepth 100000 in
theorem arity_sload (w : World) : Calls Salg.prog 181 #[.int .u8 84] w fun e w' => e = .returned (.tuple #[.int .i64 1, .int .i64 1, .bool true]) ∧ w' = w := by
  have HF := hid (family_sload w)
  go_enter Salg.func181, Salg.ntmps181
  go_wp2_with fail
  refine HF.out.mono ?_
  rintro e w1 ⟨rfl, rfl⟩
  go_wp2_with fail
  go_ret3
  exact ⟨rfl, rfl⟩

set_option maxHeartbeats 4000000 in
set_option maxRecDepth 100000 in
theorem family_mstore (w : World) : Calls Salg.prog 118 #[.int .u8 82] w fun e w' => e = .returned (.int .u8 2) ∧ w' = w := by
  go_enter Salg.func118, Salg.ntmps118
  go_wp2_with fail
  go_ret
  exact ⟨rfl, rfl⟩

set_option maxHeartbeats 4000000 in
set_option maxRecDepth 100000 in
theorem arity_mstore (w : World) : Calls Salg.prog 181 #[.int .u8 82] w fun e w' => e = .returned (.tuple #[.int .i64 2, .int .i64 0, .bool true]) ∧ w' = w := by
  have HF := hid (family_mstore w)
  go_enter Salg.func181, Salg.ntmps181
  go_wp2_with fail
  refine HF.out.mono ?_
  rintro e w1 ⟨rfl, rfl⟩
  go_wp2_with fail
  go_ret3
  exact ⟨rfl, rfl⟩

set_option maxHeartbeats 4000000 in
set_option maxRecDepth 100000 in
theorem family_return (w : World) : Calls Salg.prog 118 #[.int .u8 243] w fun e w' => e = .returned (.int .u8 31) ∧ w' = w := by
  go_enter Salg.func118, Salg.ntmps118
  go_wp2_with fail
  go_ret
  exact ⟨rfl, rfl⟩

set_option maxHeartbeats 4000000 in
set_option maxRecDepth 100000 in
theorem arity_return (w : World) : Calls Salg.prog 181 #[.int .u8 243] w fun e w' => e = .returned (.tuple #[.int .i64 2, .int .i64 0, .bool true]) ∧ w' = w := by
  have HF := hid (family_return w)
  go_enter Salg.func181, Salg.ntmps181
  go_wp2_with fail
  refine HF.out.mono ?_
  rintro e w1 ⟨rfl, rfl⟩
  go_wp2_with fail
  go_ret3
  exact ⟨rfl, rfl⟩

set_option maxHeartbeats 4000000 in
set_option maxRecDepth 100000 in
theorem family_delegatecall (w : World) : Calls Salg.prog 118 #[.int .u8 244] w fun e w' => e = .returned (.int .u8 16) ∧ w' = w := by
  go_enter Salg.func118, Salg.ntmps118
  go_wp2_with fail
  go_ret
  exact ⟨rfl, rfl⟩

set_option maxHeartbeats 4000000 in
set_option maxRecDepth 100000 in
theorem arity_delegatecall (w : World) : Calls Salg.prog 181 #[.int .u8 244] w fun e w' => e = .returned (.tuple #[.int .i64 6, .int .i64 1, .bool true]) ∧ w' = w := by
  have HF := hid (family_delegatecall w)
  go_enter Salg.func181, Salg.ntmps181
  go_wp2_with fail
  refine HF.out.mono ?_
  rintro e w1 ⟨rfl, rfl⟩
  go_wp2_with fail
  go_ret3
  exact ⟨rfl, rfl⟩

set_option maxHeartbeats 4000000 in
set_option maxRecDepth 100000 in
theorem family_stop (w : World) : Calls Salg.prog 118 #[.int .u8 0] w fun e w' => e = .returned (.int .u8 31) ∧ w' = w := by
  go_enter Salg.func118, Salg.ntmps118
  go_wp2_with fail
  go_ret
  exact ⟨rfl, rfl⟩

set_option maxHeartbeats 4000000 in
set_option maxRecDepth 100000 in
theorem arity_stop (w : World) : Calls Salg.prog 181 #[.int .u8 0] w fun e w' => e = .returned (.tuple #[.int .i64 0, .int .i64 0, .bool true]) ∧ w' = w := by
  have HF := hid (family_stop w)
  go_enter Salg.func181, Salg.ntmps181
  go_wp2_with fail
  refine HF.out.mono ?_
  rintro e w1 ⟨rfl, rfl⟩
  go_wp2_with fail
  go_ret3
  exact ⟨rfl, rfl⟩

set_option maxHeartbeats 4000000 in
set_option maxRecDepth 100000 in
theorem family_revert (w : World) : Calls Salg.prog 118 #[.int .u8 253] w fun e w' => e = .returned (.int .u8 31) ∧ w' = w := by
  go_enter Salg.func118, Salg.ntmps118
  go_wp2_with fail
  go_ret
  exact ⟨rfl, rfl⟩

set_option maxHeartbeats 4000000 in
set_option maxRecDepth 100000 in
theorem arity_revert (w : World) : Calls Salg.prog 181 #[.int .u8 253] w fun e w' => e = .returned (.tuple #[.int .i64 2, .int .i64 0, .bool true]) ∧ w' = w := by
  have HF := hid (family_revert w)
  go_enter Salg.func181, Salg.ntmps181
  go_wp2_with fail
  refine HF.out.mono ?_
  rintro e w1 ⟨rfl, rfl⟩
  go_wp2_with fail
  go_ret3
  exact ⟨rfl, rfl⟩

set_option maxHeartbeats 4000000 in
set_option maxRecDepth 100000 in
theorem family_invalid (w : World) : Calls Salg.prog 118 #[.int .u8 254] w fun e w' => e = .returned (.int .u8 0) ∧ w' = w := by
  go_enter Salg.func118, Salg.ntmps118
  go_wp2_with fail
  go_ret
  exact ⟨rfl, rfl⟩

set_option maxHeartbeats 4000000 in
set_option maxRecDepth 100000 in
theorem arity_invalid (w : World) : Calls Salg.prog 181 #[.int .u8 254] w fun e w' => e = .returned (.tuple #[.int .i64 0, .int .i64 0, .bool false]) ∧ w' = w := by
  have HF := hid (family_invalid w)
  go_enter Salg.func181, Salg.ntmps181
  go_wp2_with fail
  refine HF.out.mono ?_
  rintro e w1 ⟨rfl, rfl⟩
  go_wp2_with fail
  go_ret3
  exact ⟨rfl, rfl⟩
end Go.Proofs.YgcsalGreat

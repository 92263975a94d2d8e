/-
  (*yp.Frame).reach at SSTORE, SLOAD, STOP, INVALID; (*yp.State).bareCost at MSTORE, STOP, RETURN, REVERT.
-/
import Derived.Test.YgcsalGreatSl23
set_option linter.unusedSimpArgs false
set_option linter.unusedVariables false
namespace Go.Proofs.YgcsalGreat
open Go.RowKit Go.Own

set_option maxHeartbeats 4000000 in
set_option maxRecDepth 100000 in
theorem reach_sstore (f : Value) (w : World) : Calls Salg.prog 114 #[f, .int .u8 85] w fun e w' => e = .returned (.slice none 0 0) ∧ w' = w := by
  go_enter Salg.func114, Salg.ntmps114
  go_wp2_with fail
  go_ret
  exact ⟨rfl, rfl⟩

set_option maxHeartbeats 4000000 in
set_option maxRecDepth 100000 in
theorem reach_sload (f : Value) (w : World) : Calls Salg.prog 114 #[f, .int .u8 84] w fun e w' => e = .returned (.slice none 0 0) ∧ w' = w := by
  go_enter Salg.func114, Salg.ntmps114
  go_wp2_with fail
  go_ret
  exact ⟨rfl, rfl⟩

set_option maxHeartbeats 4000000 in
set_option maxRecDepth 100000 in
theorem reach_stop (f : Value) (w : World) : Calls Salg.prog 114 #[f, .int .u8 0] w fun e w' => e = .returned (.slice none 0 0) ∧ w' = w := by
  go_enter Salg.func114, Salg.ntmps114
  go_wp2_with fail
  go_ret
  exact ⟨rfl, rfl⟩

set_option maxHeartbeats 4000000 in
set_option maxRecDepth 100000 in
theorem bareCost_mstore (st f : Value) (w : World) : Calls Salg.prog 217 #[st, f, .int .u8 82] w fun e w' => ∃ r, e = .returned r ∧ NumV w' r 3 ∧ Kept [] w w' := by
  have M := Mem.start w []
  go_enter Salg.func217, Salg.ntmps217
  go_wp2_with fail
  refine (num_int _ 3 rfl (by decide) _).mono ?_
  rintro e w1 ⟨r, rfl, xHR, K⟩
  have HR := hid xHR
  replace M := M.call K
  clear K xHR
  go_wp2_with fail
  go_ret
  exact ⟨_, rfl, HR.out, M.kept⟩

set_option maxHeartbeats 4000000 in
set_option maxRecDepth 100000 in
theorem bareCost_stop (st f : Value) (w : World) : Calls Salg.prog 217 #[st, f, .int .u8 0] w fun e w' => ∃ r, e = .returned r ∧ NumV w' r 0 ∧ Kept [] w w' := by
  have M := Mem.start w []
  go_enter Salg.func217, Salg.ntmps217
  go_wp2_with fail
  refine (num_int _ 0 rfl (by decide) _).mono ?_
  rintro e w1 ⟨r, rfl, xHR, K⟩
  have HR := hid xHR
  replace M := M.call K
  clear K xHR
  go_wp2_with fail
  go_ret
  exact ⟨_, rfl, HR.out, M.kept⟩

set_option maxHeartbeats 4000000 in
set_option maxRecDepth 100000 in
theorem bareCost_return (st f : Value) (w : World) : Calls Salg.prog 217 #[st, f, .int .u8 243] w fun e w' => ∃ r, e = .returned r ∧ NumV w' r 0 ∧ Kept [] w w' := by
  have M := Mem.start w []
  go_enter Salg.func217, Salg.ntmps217
  go_wp2_with fail
  refine (num_int _ 0 rfl (by decide) _).mono ?_
  rintro e w1 ⟨r, rfl, xHR, K⟩
  have HR := hid xHR
  replace M := M.call K
  clear K xHR
  go_wp2_with fail
  go_ret
  exact ⟨_, rfl, HR.out, M.kept⟩

set_option maxHeartbeats 4000000 in
set_option maxRecDepth 100000 in
theorem bareCost_revert (st f : Value) (w : World) : Calls Salg.prog 217 #[st, f, .int .u8 253] w fun e w' => ∃ r, e = .returned r ∧ NumV w' r 0 ∧ Kept [] w w' := by
  have M := Mem.start w []
  go_enter Salg.func217, Salg.ntmps217
  go_wp2_with fail
  refine (num_int _ 0 rfl (by decide) _).mono ?_
  rintro e w1 ⟨r, rfl, xHR, K⟩
  have HR := hid xHR
  replace M := M.call K
  clear K xHR
  go_wp2_with fail
  go_ret
  exact ⟨_, rfl, HR.out, M.kept⟩
end Go.Proofs.YgcsalGreat

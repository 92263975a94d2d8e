/-
  op.Family and yp.arity at the instructions of Copies and Context; bareCost and reach where they are constant.
-/
import Derived.Test.YgcsalGreatMv16
set_option linter.unusedSimpArgs false
set_option linter.unusedVariables false
namespace Go.Proofs.YgcsalGreat
open Go.RowKit Go.Own

set_option maxHeartbeats 4000000 in
set_option maxRecDepth 100000 in
theorem family_not (w : World) : Calls Salg.prog 118 #[.int .u8 25] w fun e w' => e = .returned (.int .u8 1) ∧ w' = w := by
  go_enter Salg.func118, Salg.ntmps118
  go_wp2_with fail
  go_ret
  exact ⟨rfl, rfl⟩

set_option maxHeartbeats 4000000 in
set_option maxRecDepth 100000 in
theorem arity_not (w : World) : Calls Salg.prog 181 #[.int .u8 25] w fun e w' => e = .returned (.tuple #[.int .i64 1, .int .i64 1, .bool true]) ∧ w' = w := by
  have HF := hid (family_not w)
  go_enter Salg.func181, Salg.ntmps181
  go_wp2_with fail
  refine HF.out.mono ?_
  rintro e w1 ⟨rfl, rfl⟩
  go_wp2_with fail
  go_ret3
  exact ⟨rfl, rfl⟩

set_option maxHeartbeats 4000000 in
set_option maxRecDepth 100000 in
theorem family_address (w : World) : Calls Salg.prog 118 #[.int .u8 48] w fun e w' => e = .returned (.int .u8 2) ∧ w' = w := by
  go_enter Salg.func118, Salg.ntmps118
  go_wp2_with fail
  go_ret
  exact ⟨rfl, rfl⟩

set_option maxHeartbeats 4000000 in
set_option maxRecDepth 100000 in
theorem arity_address (w : World) : Calls Salg.prog 181 #[.int .u8 48] w fun e w' => e = .returned (.tuple #[.int .i64 0, .int .i64 1, .bool true]) ∧ w' = w := by
  have HF := hid (family_address w)
  go_enter Salg.func181, Salg.ntmps181
  go_wp2_with fail
  refine HF.out.mono ?_
  rintro e w1 ⟨rfl, rfl⟩
  go_wp2_with fail
  refine HF.out.mono ?_
  rintro e w1 ⟨rfl, rfl⟩
  go_wp2_with fail
  go_ret3
  exact ⟨rfl, rfl⟩

set_option maxHeartbeats 4000000 in
set_option maxRecDepth 100000 in
theorem family_origin (w : World) : Calls Salg.prog 118 #[.int .u8 50] w fun e w' => e = .returned (.int .u8 2) ∧ w' = w := by
  go_enter Salg.func118, Salg.ntmps118
  go_wp2_with fail
  go_ret
  exact ⟨rfl, rfl⟩

set_option maxHeartbeats 4000000 in
set_option maxRecDepth 100000 in
theorem arity_origin (w : World) : Calls Salg.prog 181 #[.int .u8 50] w fun e w' => e = .returned (.tuple #[.int .i64 0, .int .i64 1, .bool true]) ∧ w' = w := by
  have HF := hid (family_origin w)
  go_enter Salg.func181, Salg.ntmps181
  go_wp2_with fail
  refine HF.out.mono ?_
  rintro e w1 ⟨rfl, rfl⟩
  go_wp2_with fail
  refine HF.out.mono ?_
  rintro e w1 ⟨rfl, rfl⟩
  go_wp2_with fail
  go_ret3
  exact ⟨rfl, rfl⟩

set_option maxHeartbeats 4000000 in
set_option maxRecDepth 100000 in
theorem family_caller (w : World) : Calls Salg.prog 118 #[.int .u8 51] w fun e w' => e = .returned (.int .u8 2) ∧ w' = w := by
  go_enter Salg.func118, Salg.ntmps118
  go_wp2_with fail
  go_ret
  exact ⟨rfl, rfl⟩

set_option maxHeartbeats 4000000 in
set_option maxRecDepth 100000 in
theorem arity_caller (w : World) : Calls Salg.prog 181 #[.int .u8 51] w fun e w' => e = .returned (.tuple #[.int .i64 0, .int .i64 1, .bool true]) ∧ w' = w := by
  have HF := hid (family_caller w)
  go_enter Salg.func181, Salg.ntmps181
  go_wp2_with fail
  refine HF.out.mono ?_
  rintro e w1 ⟨rfl, rfl⟩
  go_wp2_with fail
  refine HF.out.mono ?_
  rintro e w1 ⟨rfl, rfl⟩
  go_wp2_with fail
  go_ret3
  exact ⟨rfl, rfl⟩

set_option maxHeartbeats 4000000 in
set_option maxRecDepth 100000 in
theorem family_callvalue (w : World) : Calls Salg.prog 118 #[.int .u8 52] w fun e w' => e = .returned (.int .u8 2) ∧ w' = w := by
  go_enter Salg.func118, Salg.ntmps118
  go_wp2_with fail
  go_ret
  exact ⟨rfl, rfl⟩

set_option maxHeartbeats 4000000 in
set_option maxRecDepth 100000 in
theorem arity_callvalue (w : World) : Calls Salg.prog 181 #[.int .u8 52] w fun e w' => e = .returned (.tuple #[.int .i64 0, .int .i64 1, .bool true]) ∧ w' = w := by
  have HF := hid (family_callvalue w)
  go_enter Salg.func181, Salg.ntmps181
  go_wp2_with fail
  refine HF.out.mono ?_
  rintro e w1 ⟨rfl, rfl⟩
  go_wp2_with fail
  refine HF.out.mono ?_
  rintro e w1 ⟨rfl, rfl⟩
  go_wp2_with fail
  go_ret3
  exact ⟨rfl, rfl⟩

set_option maxHeartbeats 4000000 in
set_option maxRecDepth 100000 in
theorem family_calldataload (w : World) : Calls Salg.prog 118 #[.int .u8 53] w fun e w' => e = .returned (.int .u8 2) ∧ w' = w := by
  go_enter Salg.func118, Salg.ntmps118
  go_wp2_with fail
  go_ret
  exact ⟨rfl, rfl⟩

set_option maxHeartbeats 4000000 in
set_option maxRecDepth 100000 in
theorem arity_calldataload (w : World) : Calls Salg.prog 181 #[.int .u8 53] w fun e w' => e = .returned (.tuple #[.int .i64 1, .int .i64 1, .bool true]) ∧ w' = w := by
  have HF := hid (family_calldataload w)
  go_enter Salg.func181, Salg.ntmps181
  go_wp2_with fail
  refine HF.out.mono ?_
  rintro e w1 ⟨rfl, rfl⟩
  go_wp2_with fail
  go_ret3
  exact ⟨rfl, rfl⟩

set_option maxHeartbeats 4000000 in
set_option maxRecDepth 100000 in
theorem family_calldatasize (w : World) : Calls Salg.prog 118 #[.int .u8 54] w fun e w' => e = .returned (.int .u8 2) ∧ w' = w := by
  go_enter Salg.func118, Salg.ntmps118
  go_wp2_with fail
  go_ret
  exact ⟨rfl, rfl⟩

set_option maxHeartbeats 4000000 in
set_option maxRecDepth 100000 in
theorem arity_calldatasize (w : World) : Calls Salg.prog 181 #[.int .u8 54] w fun e w' => e = .returned (.tuple #[.int .i64 0, .int .i64 1, .bool true]) ∧ w' = w := by
  have HF := hid (family_calldatasize w)
  go_enter Salg.func181, Salg.ntmps181
  go_wp2_with fail
  refine HF.out.mono ?_
  rintro e w1 ⟨rfl, rfl⟩
  go_wp2_with fail
  refine HF.out.mono ?_
  rintro e w1 ⟨rfl, rfl⟩
  go_wp2_with fail
  go_ret3
  exact ⟨rfl, rfl⟩

set_option maxHeartbeats 4000000 in
set_option maxRecDepth 100000 in
theorem family_calldatacopy (w : World) : Calls Salg.prog 118 #[.int .u8 55] w fun e w' => e = .returned (.int .u8 2) ∧ w' = w := by
  go_enter Salg.func118, Salg.ntmps118
  go_wp2_with fail
  go_ret
  exact ⟨rfl, rfl⟩

set_option maxHeartbeats 4000000 in
set_option maxRecDepth 100000 in
theorem arity_calldatacopy (w : World) : Calls Salg.prog 181 #[.int .u8 55] w fun e w' => e = .returned (.tuple #[.int .i64 3, .int .i64 0, .bool true]) ∧ w' = w := by
  have HF := hid (family_calldatacopy w)
  go_enter Salg.func181, Salg.ntmps181
  go_wp2_with fail
  refine HF.out.mono ?_
  rintro e w1 ⟨rfl, rfl⟩
  go_wp2_with fail
  go_ret3
  exact ⟨rfl, rfl⟩

set_option maxHeartbeats 4000000 in
set_option maxRecDepth 100000 in
theorem family_codecopy (w : World) : Calls Salg.prog 118 #[.int .u8 57] w fun e w' => e = .returned (.int .u8 2) ∧ w' = w := by
  go_enter Salg.func118, Salg.ntmps118
  go_wp2_with fail
  go_ret
  exact ⟨rfl, rfl⟩

set_option maxHeartbeats 4000000 in
set_option maxRecDepth 100000 in
theorem arity_codecopy (w : World) : Calls Salg.prog 181 #[.int .u8 57] w fun e w' => e = .returned (.tuple #[.int .i64 3, .int .i64 0, .bool true]) ∧ w' = w := by
  have HF := hid (family_codecopy w)
  go_enter Salg.func181, Salg.ntmps181
  go_wp2_with fail
  refine HF.out.mono ?_
  rintro e w1 ⟨rfl, rfl⟩
  go_wp2_with fail
  go_ret3
  exact ⟨rfl, rfl⟩

set_option maxHeartbeats 4000000 in
set_option maxRecDepth 100000 in
theorem family_extcodecopy (w : World) : Calls Salg.prog 118 #[.int .u8 60] w fun e w' => e = .returned (.int .u8 2) ∧ w' = w := by
  go_enter Salg.func118, Salg.ntmps118
  go_wp2_with fail
  go_ret
  exact ⟨rfl, rfl⟩

set_option maxHeartbeats 4000000 in
set_option maxRecDepth 100000 in
theorem arity_extcodecopy (w : World) : Calls Salg.prog 181 #[.int .u8 60] w fun e w' => e = .returned (.tuple #[.int .i64 4, .int .i64 0, .bool true]) ∧ w' = w := by
  have HF := hid (family_extcodecopy w)
  go_enter Salg.func181, Salg.ntmps181
  go_wp2_with fail
  refine HF.out.mono ?_
  rintro e w1 ⟨rfl, rfl⟩
  go_wp2_with fail
  go_ret3
  exact ⟨rfl, rfl⟩

set_option maxHeartbeats 4000000 in
set_option maxRecDepth 100000 in
theorem family_returndatasize (w : World) : Calls Salg.prog 118 #[.int .u8 61] w fun e w' => e = .returned (.int .u8 2) ∧ w' = w := by
  go_enter Salg.func118, Salg.ntmps118
  go_wp2_with fail
  go_ret
  exact ⟨rfl, rfl⟩

set_option maxHeartbeats 4000000 in
set_option maxRecDepth 100000 in
theorem arity_returndatasize (w : World) : Calls Salg.prog 181 #[.int .u8 61] w fun e w' => e = .returned (.tuple #[.int .i64 0, .int .i64 1, .bool true]) ∧ w' = w := by
  have HF := hid (family_returndatasize w)
  go_enter Salg.func181, Salg.ntmps181
  go_wp2_with fail
  refine HF.out.mono ?_
  rintro e w1 ⟨rfl, rfl⟩
  go_wp2_with fail
  refine HF.out.mono ?_
  rintro e w1 ⟨rfl, rfl⟩
  go_wp2_with fail
  go_ret3
  exact ⟨rfl, rfl⟩

set_option maxHeartbeats 4000000 in
set_option maxRecDepth 100000 in
theorem family_returndatacopy (w : World) : Calls Salg.prog 118 #[.int .u8 62] w fun e w' => e = .returned (.int .u8 2) ∧ w' = w := by
  go_enter Salg.func118, Salg.ntmps118
  go_wp2_with fail
  go_ret
  exact ⟨rfl, rfl⟩

set_option maxHeartbeats 4000000 in
set_option maxRecDepth 100000 in
theorem arity_returndatacopy (w : World) : Calls Salg.prog 181 #[.int .u8 62] w fun e w' => e = .returned (.tuple #[.int .i64 3, .int .i64 0, .bool true]) ∧ w' = w := by
  have HF := hid (family_returndatacopy w)
  go_enter Salg.func181, Salg.ntmps181
  go_wp2_with fail
  refine HF.out.mono ?_
  rintro e w1 ⟨rfl, rfl⟩
  go_wp2_with fail
  go_ret3
  exact ⟨rfl, rfl⟩

set_option maxHeartbeats 4000000 in
set_option maxRecDepth 100000 in
theorem family_gas (w : World) : Calls Salg.prog 118 #[.int .u8 90] w fun e w' => e = .returned (.int .u8 4) ∧ w' = w := by
  go_enter Salg.func118, Salg.ntmps118
  go_wp2_with fail
  go_ret
  exact ⟨rfl, rfl⟩

set_option maxHeartbeats 4000000 in
set_option maxRecDepth 100000 in
theorem arity_gas (w : World) : Calls Salg.prog 181 #[.int .u8 90] w fun e w' => e = .returned (.tuple #[.int .i64 0, .int .i64 1, .bool true]) ∧ w' = w := by
  have HF := hid (family_gas w)
  go_enter Salg.func181, Salg.ntmps181
  go_wp2_with fail
  refine HF.out.mono ?_
  rintro e w1 ⟨rfl, rfl⟩
  go_wp2_with fail
  refine HF.out.mono ?_
  rintro e w1 ⟨rfl, rfl⟩
  go_wp2_with fail
  go_ret3
  exact ⟨rfl, rfl⟩

set_option maxHeartbeats 4000000 in
set_option maxRecDepth 100000 in
theorem family_mcopy (w : World) : Calls Salg.prog 118 #[.int .u8 94] w fun e w' => e = .returned (.int .u8 2) ∧ w' = w := by
  go_enter Salg.func118, Salg.ntmps118
  go_wp2_with fail
  go_ret
  exact ⟨rfl, rfl⟩

set_option maxHeartbeats 4000000 in
set_option maxRecDepth 100000 in
theorem arity_mcopy (w : World) : Calls Salg.prog 181 #[.int .u8 94] w fun e w' => e = .returned (.tuple #[.int .i64 3, .int .i64 0, .bool true]) ∧ w' = w := by
  have HF := hid (family_mcopy w)
  go_enter Salg.func181, Salg.ntmps181
  go_wp2_with fail
  refine HF.out.mono ?_
  rintro e w1 ⟨rfl, rfl⟩
  go_wp2_with fail
  go_ret3
  exact ⟨rfl, rfl⟩

set_option maxHeartbeats 4000000 in
set_option maxRecDepth 100000 in
theorem family_create (w : World) : Calls Salg.prog 118 #[.int .u8 240] w fun e w' => e = .returned (.int .u8 16) ∧ w' = w := by
  go_enter Salg.func118, Salg.ntmps118
  go_wp2_with fail
  go_ret
  exact ⟨rfl, rfl⟩

set_option maxHeartbeats 4000000 in
set_option maxRecDepth 100000 in
theorem arity_create (w : World) : Calls Salg.prog 181 #[.int .u8 240] w fun e w' => e = .returned (.tuple #[.int .i64 3, .int .i64 1, .bool true]) ∧ w' = w := by
  have HF := hid (family_create w)
  go_enter Salg.func181, Salg.ntmps181
  go_wp2_with fail
  refine HF.out.mono ?_
  rintro e w1 ⟨rfl, rfl⟩
  go_wp2_with fail
  go_ret3
  exact ⟨rfl, rfl⟩

set_option maxHeartbeats 4000000 in
set_option maxRecDepth 100000 in
theorem family_call (w : World) : Calls Salg.prog 118 #[.int .u8 241] w fun e w' => e = .returned (.int .u8 16) ∧ w' = w := by
  go_enter Salg.func118, Salg.ntmps118
  go_wp2_with fail
  go_ret
  exact ⟨rfl, rfl⟩

set_option maxHeartbeats 4000000 in
set_option maxRecDepth 100000 in
theorem arity_call (w : World) : Calls Salg.prog 181 #[.int .u8 241] w fun e w' => e = .returned (.tuple #[.int .i64 7, .int .i64 1, .bool true]) ∧ w' = w := by
  have HF := hid (family_call w)
  go_enter Salg.func181, Salg.ntmps181
  go_wp2_with fail
  refine HF.out.mono ?_
  rintro e w1 ⟨rfl, rfl⟩
  go_wp2_with fail
  go_ret3
  exact ⟨rfl, rfl⟩

set_option maxHeartbeats 4000000 in
set_option maxRecDepth 100000 in
theorem family_staticcall (w : World) : Calls Salg.prog 118 #[.int .u8 250] w fun e w' => e = .returned (.int .u8 16) ∧ w' = w := by
  go_enter Salg.func118, Salg.ntmps118
  go_wp2_with fail
  go_ret
  exact ⟨rfl, rfl⟩

set_option maxHeartbeats 4000000 in
set_option maxRecDepth 100000 in
theorem arity_staticcall (w : World) : Calls Salg.prog 181 #[.int .u8 250] w fun e w' => e = .returned (.tuple #[.int .i64 6, .int .i64 1, .bool true]) ∧ w' = w := by
  have HF := hid (family_staticcall w)
  go_enter Salg.func181, Salg.ntmps181
  go_wp2_with fail
  refine HF.out.mono ?_
  rintro e w1 ⟨rfl, rfl⟩
  go_wp2_with fail
  go_ret3
  exact ⟨rfl, rfl⟩

set_option maxHeartbeats 4000000 in
set_option maxRecDepth 100000 in
theorem bareCost_not (st f : Value) (w : World) : Calls Salg.prog 217 #[st, f, .int .u8 25] w fun e w' => ∃ r, e = .returned r ∧ NumV w' r 3 ∧ Kept [] w w' := by
  have M := Mem.start w []
  have HF := hid (fun w => family_not w)
  go_enter Salg.func217, Salg.ntmps217
  go_wp2_with fail
  refine (num_int _ 3 rfl (by decide) _).mono ?_
  rintro e w2 ⟨r, rfl, xHR, K⟩
  have HR := hid xHR
  replace M := M.call K
  clear K xHR
  go_wp2_with fail
  go_ret
  exact ⟨_, rfl, HR.out, M.kept⟩

set_option maxHeartbeats 4000000 in
set_option maxRecDepth 100000 in
theorem bareCost_calldataload (st f : Value) (w : World) : Calls Salg.prog 217 #[st, f, .int .u8 53] w fun e w' => ∃ r, e = .returned r ∧ NumV w' r 3 ∧ Kept [] w w' := by
  have M := Mem.start w []
  have HF := hid (fun w => family_calldataload w)
  go_enter Salg.func217, Salg.ntmps217
  go_wp2_with fail
  refine (num_int _ 3 rfl (by decide) _).mono ?_
  rintro e w2 ⟨r, rfl, xHR, K⟩
  have HR := hid xHR
  replace M := M.call K
  clear K xHR
  go_wp2_with fail
  go_ret
  exact ⟨_, rfl, HR.out, M.kept⟩

set_option maxHeartbeats 4000000 in
set_option maxRecDepth 100000 in
theorem bareCost_address (st f : Value) (w : World) : Calls Salg.prog 217 #[st, f, .int .u8 48] w fun e w' => ∃ r, e = .returned r ∧ NumV w' r 2 ∧ Kept [] w w' := by
  have M := Mem.start w []
  have HF := hid (fun w => family_address w)
  go_enter Salg.func217, Salg.ntmps217
  go_wp2_with fail
  refine (HF.out _).mono ?_
  rintro e w1 ⟨rfl, hw⟩
  replace hw := hw.symm
  subst hw
  go_wp2_with fail
  refine (num_int _ 2 rfl (by decide) _).mono ?_
  rintro e w2 ⟨r, rfl, xHR, K⟩
  have HR := hid xHR
  replace M := M.call K
  clear K xHR
  go_wp2_with fail
  go_ret
  exact ⟨_, rfl, HR.out, M.kept⟩

set_option maxHeartbeats 4000000 in
set_option maxRecDepth 100000 in
theorem bareCost_origin (st f : Value) (w : World) : Calls Salg.prog 217 #[st, f, .int .u8 50] w fun e w' => ∃ r, e = .returned r ∧ NumV w' r 2 ∧ Kept [] w w' := by
  have M := Mem.start w []
  have HF := hid (fun w => family_origin w)
  go_enter Salg.func217, Salg.ntmps217
  go_wp2_with fail
  refine (HF.out _).mono ?_
  rintro e w1 ⟨rfl, hw⟩
  replace hw := hw.symm
  subst hw
  go_wp2_with fail
  refine (num_int _ 2 rfl (by decide) _).mono ?_
  rintro e w2 ⟨r, rfl, xHR, K⟩
  have HR := hid xHR
  replace M := M.call K
  clear K xHR
  go_wp2_with fail
  go_ret
  exact ⟨_, rfl, HR.out, M.kept⟩

set_option maxHeartbeats 4000000 in
set_option maxRecDepth 100000 in
theorem bareCost_caller (st f : Value) (w : World) : Calls Salg.prog 217 #[st, f, .int .u8 51] w fun e w' => ∃ r, e = .returned r ∧ NumV w' r 2 ∧ Kept [] w w' := by
  have M := Mem.start w []
  have HF := hid (fun w => family_caller w)
  go_enter Salg.func217, Salg.ntmps217
  go_wp2_with fail
  refine (HF.out _).mono ?_
  rintro e w1 ⟨rfl, hw⟩
  replace hw := hw.symm
  subst hw
  go_wp2_with fail
  refine (num_int _ 2 rfl (by decide) _).mono ?_
  rintro e w2 ⟨r, rfl, xHR, K⟩
  have HR := hid xHR
  replace M := M.call K
  clear K xHR
  go_wp2_with fail
  go_ret
  exact ⟨_, rfl, HR.out, M.kept⟩

set_option maxHeartbeats 4000000 in
set_option maxRecDepth 100000 in
theorem bareCost_callvalue (st f : Value) (w : World) : Calls Salg.prog 217 #[st, f, .int .u8 52] w fun e w' => ∃ r, e = .returned r ∧ NumV w' r 2 ∧ Kept [] w w' := by
  have M := Mem.start w []
  have HF := hid (fun w => family_callvalue w)
  go_enter Salg.func217, Salg.ntmps217
  go_wp2_with fail
  refine (HF.out _).mono ?_
  rintro e w1 ⟨rfl, hw⟩
  replace hw := hw.symm
  subst hw
  go_wp2_with fail
  refine (num_int _ 2 rfl (by decide) _).mono ?_
  rintro e w2 ⟨r, rfl, xHR, K⟩
  have HR := hid xHR
  replace M := M.call K
  clear K xHR
  go_wp2_with fail
  go_ret
  exact ⟨_, rfl, HR.out, M.kept⟩

set_option maxHeartbeats 4000000 in
set_option maxRecDepth 100000 in
theorem bareCost_calldatasize (st f : Value) (w : World) : Calls Salg.prog 217 #[st, f, .int .u8 54] w fun e w' => ∃ r, e = .returned r ∧ NumV w' r 2 ∧ Kept [] w w' := by
  have M := Mem.start w []
  have HF := hid (fun w => family_calldatasize w)
  go_enter Salg.func217, Salg.ntmps217
  go_wp2_with fail
  refine (HF.out _).mono ?_
  rintro e w1 ⟨rfl, hw⟩
  replace hw := hw.symm
  subst hw
  go_wp2_with fail
  refine (num_int _ 2 rfl (by decide) _).mono ?_
  rintro e w2 ⟨r, rfl, xHR, K⟩
  have HR := hid xHR
  replace M := M.call K
  clear K xHR
  go_wp2_with fail
  go_ret
  exact ⟨_, rfl, HR.out, M.kept⟩

set_option maxHeartbeats 4000000 in
set_option maxRecDepth 100000 in
theorem bareCost_returndatasize (st f : Value) (w : World) : Calls Salg.prog 217 #[st, f, .int .u8 61] w fun e w' => ∃ r, e = .returned r ∧ NumV w' r 2 ∧ Kept [] w w' := by
  have M := Mem.start w []
  have HF := hid (fun w => family_returndatasize w)
  go_enter Salg.func217, Salg.ntmps217
  go_wp2_with fail
  refine (HF.out _).mono ?_
  rintro e w1 ⟨rfl, hw⟩
  replace hw := hw.symm
  subst hw
  go_wp2_with fail
  refine (num_int _ 2 rfl (by decide) _).mono ?_
  rintro e w2 ⟨r, rfl, xHR, K⟩
  have HR := hid xHR
  replace M := M.call K
  clear K xHR
  go_wp2_with fail
  go_ret
  exact ⟨_, rfl, HR.out, M.kept⟩

set_option maxHeartbeats 4000000 in
set_option maxRecDepth 100000 in
theorem bareCost_gas (st f : Value) (w : World) : Calls Salg.prog 217 #[st, f, .int .u8 90] w fun e w' => ∃ r, e = .returned r ∧ NumV w' r 2 ∧ Kept [] w w' := by
  have M := Mem.start w []
  have HF := hid (fun w => family_gas w)
  go_enter Salg.func217, Salg.ntmps217
  go_wp2_with fail
  refine (HF.out _).mono ?_
  rintro e w1 ⟨rfl, hw⟩
  replace hw := hw.symm
  subst hw
  go_wp2_with fail
  refine (num_int _ 2 rfl (by decide) _).mono ?_
  rintro e w2 ⟨r, rfl, xHR, K⟩
  have HR := hid xHR
  replace M := M.call K
  clear K xHR
  go_wp2_with fail
  go_ret
  exact ⟨_, rfl, HR.out, M.kept⟩

set_option maxHeartbeats 4000000 in
set_option maxRecDepth 100000 in
theorem reach_not (f : Value) (w : World) : Calls Salg.prog 114 #[f, .int .u8 25] w fun e w' => e = .returned (.slice none 0 0) ∧ w' = w := by
  go_enter Salg.func114, Salg.ntmps114
  go_wp2_with fail
  go_ret
  exact ⟨rfl, rfl⟩

set_option maxHeartbeats 4000000 in
set_option maxRecDepth 100000 in
theorem reach_calldataload (f : Value) (w : World) : Calls Salg.prog 114 #[f, .int .u8 53] w fun e w' => e = .returned (.slice none 0 0) ∧ w' = w := by
  go_enter Salg.func114, Salg.ntmps114
  go_wp2_with fail
  go_ret
  exact ⟨rfl, rfl⟩

set_option maxHeartbeats 4000000 in
set_option maxRecDepth 100000 in
theorem reach_address (f : Value) (w : World) : Calls Salg.prog 114 #[f, .int .u8 48] w fun e w' => e = .returned (.slice none 0 0) ∧ w' = w := by
  go_enter Salg.func114, Salg.ntmps114
  go_wp2_with fail
  go_ret
  exact ⟨rfl, rfl⟩

set_option maxHeartbeats 4000000 in
set_option maxRecDepth 100000 in
theorem reach_origin (f : Value) (w : World) : Calls Salg.prog 114 #[f, .int .u8 50] w fun e w' => e = .returned (.slice none 0 0) ∧ w' = w := by
  go_enter Salg.func114, Salg.ntmps114
  go_wp2_with fail
  go_ret
  exact ⟨rfl, rfl⟩

set_option maxHeartbeats 4000000 in
set_option maxRecDepth 100000 in
theorem reach_caller (f : Value) (w : World) : Calls Salg.prog 114 #[f, .int .u8 51] w fun e w' => e = .returned (.slice none 0 0) ∧ w' = w := by
  go_enter Salg.func114, Salg.ntmps114
  go_wp2_with fail
  go_ret
  exact ⟨rfl, rfl⟩

set_option maxHeartbeats 4000000 in
set_option maxRecDepth 100000 in
theorem reach_callvalue (f : Value) (w : World) : Calls Salg.prog 114 #[f, .int .u8 52] w fun e w' => e = .returned (.slice none 0 0) ∧ w' = w := by
  go_enter Salg.func114, Salg.ntmps114
  go_wp2_with fail
  go_ret
  exact ⟨rfl, rfl⟩

set_option maxHeartbeats 4000000 in
set_option maxRecDepth 100000 in
theorem reach_calldatasize (f : Value) (w : World) : Calls Salg.prog 114 #[f, .int .u8 54] w fun e w' => e = .returned (.slice none 0 0) ∧ w' = w := by
  go_enter Salg.func114, Salg.ntmps114
  go_wp2_with fail
  go_ret
  exact ⟨rfl, rfl⟩

set_option maxHeartbeats 4000000 in
set_option maxRecDepth 100000 in
theorem reach_returndatasize (f : Value) (w : World) : Calls Salg.prog 114 #[f, .int .u8 61] w fun e w' => e = .returned (.slice none 0 0) ∧ w' = w := by
  go_enter Salg.func114, Salg.ntmps114
  go_wp2_with fail
  go_ret
  exact ⟨rfl, rfl⟩

set_option maxHeartbeats 4000000 in
set_option maxRecDepth 100000 in
theorem reach_gas (f : Value) (w : World) : Calls Salg.prog 114 #[f, .int .u8 90] w fun e w' => e = .returned (.slice none 0 0) ∧ w' = w := by
  go_enter Salg.func114, Salg.ntmps114
  go_wp2_with fail
  go_ret
  exact ⟨rfl, rfl⟩
end Go.Proofs.YgcsalGreat

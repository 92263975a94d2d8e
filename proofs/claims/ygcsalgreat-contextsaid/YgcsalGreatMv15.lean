/-
  The walks of op.Family and yp.arity at PUSH, DUP, SWAP and POP.
-/
import Derived.Test.YgcsalGreatMv1
set_option linter.unusedSimpArgs false
set_option linter.unusedVariables false
namespace Go.Proofs.YgcsalGreat
open Go.RowKit Go.Own

set_option maxHeartbeats 4000000 in
set_option maxRecDepth 100000 in
theorem family_pop (w : World) : Calls Salg.prog 118 #[.int .u8 80] w fun e w' => e = .returned (.int .u8 2) ∧ w' = w := by
  go_enter Salg.func118, Salg.ntmps118
  go_wp2_with fail
  go_ret
  exact ⟨rfl, rfl⟩

set_option maxHeartbeats 4000000 in
set_option maxRecDepth 100000 in
theorem family_push0 (w : World) : Calls Salg.prog 118 #[.int .u8 95] w fun e w' => e = .returned (.int .u8 2) ∧ w' = w := by
  go_enter Salg.func118, Salg.ntmps118
  go_wp2_with fail
  go_ret
  exact ⟨rfl, rfl⟩

set_option maxHeartbeats 4000000 in
set_option maxRecDepth 100000 in
theorem family_push (o : Nat) (w : World) (h1 : 96 ≤ o) (h2 : o ≤ 127) : Calls Salg.prog 118 #[.int .u8 o] w fun e w' => e = .returned (.int .u8 2) ∧ w' = w := by
  have deql0 : decide ((o : Int) = 0) = false := by simp; omega
  have deql243 : decide ((o : Int) = 243) = false := by simp; omega
  have deql253 : decide ((o : Int) = 253) = false := by simp; omega
  have dgeq1 : decide ((1 : Int) ≤ (o : Int)) = true := by simp; omega
  have dleq11 : decide ((o : Int) ≤ 11) = false := by simp; omega
  have dgeq16 : decide ((16 : Int) ≤ (o : Int)) = true := by simp; omega
  have dleq29 : decide ((o : Int) ≤ 29) = false := by simp; omega
  have deql32 : decide ((o : Int) = 32) = false := by simp; omega
  have dgeq48 : decide ((48 : Int) ≤ (o : Int)) = true := by simp; omega
  have dleq72 : decide ((o : Int) ≤ 72) = false := by simp; omega
  have dgeq80 : decide ((80 : Int) ≤ (o : Int)) = true := by simp; omega
  have dleq83 : decide ((o : Int) ≤ 83) = false := by simp; omega
  have deql89 : decide ((o : Int) = 89) = false := by simp; omega
  have dgeq94 : decide ((94 : Int) ≤ (o : Int)) = true := by simp; omega
  have dleq159 : decide ((o : Int) ≤ 159) = true := by simp; omega
  have dgeq86 : decide ((86 : Int) ≤ (o : Int)) = true := by simp; omega
  have dleq88 : decide ((o : Int) ≤ 88) = false := by simp; omega
  have deql90 : decide ((o : Int) = 90) = false := by simp; omega
  have deql91 : decide ((o : Int) = 91) = false := by simp; omega
  have deql84 : decide ((o : Int) = 84) = false := by simp; omega
  have deql85 : decide ((o : Int) = 85) = false := by simp; omega
  have deql92 : decide ((o : Int) = 92) = false := by simp; omega
  have deql93 : decide ((o : Int) = 93) = false := by simp; omega
  have dgeq160 : decide ((160 : Int) ≤ (o : Int)) = false := by simp; omega
  have dleq164 : decide ((o : Int) ≤ 164) = true := by simp; omega
  have deql240 : decide ((o : Int) = 240) = false := by simp; omega
  have deql241 : decide ((o : Int) = 241) = false := by simp; omega
  have deql242 : decide ((o : Int) = 242) = false := by simp; omega
  have deql244 : decide ((o : Int) = 244) = false := by simp; omega
  have deql245 : decide ((o : Int) = 245) = false := by simp; omega
  have deql250 : decide ((o : Int) = 250) = false := by simp; omega
  have deql255 : decide ((o : Int) = 255) = false := by simp; omega
  go_enter Salg.func118, Salg.ntmps118
  go_wp2_with fail
  go_ret
  exact ⟨rfl, rfl⟩

set_option maxHeartbeats 4000000 in
set_option maxRecDepth 100000 in
theorem family_dup (o : Nat) (w : World) (h1 : 128 ≤ o) (h2 : o ≤ 143) : Calls Salg.prog 118 #[.int .u8 o] w fun e w' => e = .returned (.int .u8 2) ∧ w' = w := by
  have deql0 : decide ((o : Int) = 0) = false := by simp; omega
  have deql243 : decide ((o : Int) = 243) = false := by simp; omega
  have deql253 : decide ((o : Int) = 253) = false := by simp; omega
  have dgeq1 : decide ((1 : Int) ≤ (o : Int)) = true := by simp; omega
  have dleq11 : decide ((o : Int) ≤ 11) = false := by simp; omega
  have dgeq16 : decide ((16 : Int) ≤ (o : Int)) = true := by simp; omega
  have dleq29 : decide ((o : Int) ≤ 29) = false := by simp; omega
  have deql32 : decide ((o : Int) = 32) = false := by simp; omega
  have dgeq48 : decide ((48 : Int) ≤ (o : Int)) = true := by simp; omega
  have dleq72 : decide ((o : Int) ≤ 72) = false := by simp; omega
  have dgeq80 : decide ((80 : Int) ≤ (o : Int)) = true := by simp; omega
  have dleq83 : decide ((o : Int) ≤ 83) = false := by simp; omega
  have deql89 : decide ((o : Int) = 89) = false := by simp; omega
  have dgeq94 : decide ((94 : Int) ≤ (o : Int)) = true := by simp; omega
  have dleq159 : decide ((o : Int) ≤ 159) = true := by simp; omega
  have dgeq86 : decide ((86 : Int) ≤ (o : Int)) = true := by simp; omega
  have dleq88 : decide ((o : Int) ≤ 88) = false := by simp; omega
  have deql90 : decide ((o : Int) = 90) = false := by simp; omega
  have deql91 : decide ((o : Int) = 91) = false := by simp; omega
  have deql84 : decide ((o : Int) = 84) = false := by simp; omega
  have deql85 : decide ((o : Int) = 85) = false := by simp; omega
  have deql92 : decide ((o : Int) = 92) = false := by simp; omega
  have deql93 : decide ((o : Int) = 93) = false := by simp; omega
  have dgeq160 : decide ((160 : Int) ≤ (o : Int)) = false := by simp; omega
  have dleq164 : decide ((o : Int) ≤ 164) = true := by simp; omega
  have deql240 : decide ((o : Int) = 240) = false := by simp; omega
  have deql241 : decide ((o : Int) = 241) = false := by simp; omega
  have deql242 : decide ((o : Int) = 242) = false := by simp; omega
  have deql244 : decide ((o : Int) = 244) = false := by simp; omega
  have deql245 : decide ((o : Int) = 245) = false := by simp; omega
  have deql250 : decide ((o : Int) = 250) = false := by simp; omega
  have deql255 : decide ((o : Int) = 255) = false := by simp; omega
  go_enter Salg.func118, Salg.ntmps118
  go_wp2_with fail
  go_ret
  exact ⟨rfl, rfl⟩

set_option maxHeartbeats 4000000 in
set_option maxRecDepth 100000 in
theorem family_swap (o : Nat) (w : World) (h1 : 144 ≤ o) (h2 : o ≤ 159) : Calls Salg.prog 118 #[.int .u8 o] w fun e w' => e = .returned (.int .u8 2) ∧ w' = w := by
  have deql0 : decide ((o : Int) = 0) = false := by simp; omega
  have deql243 : decide ((o : Int) = 243) = false := by simp; omega
  have deql253 : decide ((o : Int) = 253) = false := by simp; omega
  have dgeq1 : decide ((1 : Int) ≤ (o : Int)) = true := by simp; omega
  have dleq11 : decide ((o : Int) ≤ 11) = false := by simp; omega
  have dgeq16 : decide ((16 : Int) ≤ (o : Int)) = true := by simp; omega
  have dleq29 : decide ((o : Int) ≤ 29) = false := by simp; omega
  have deql32 : decide ((o : Int) = 32) = false := by simp; omega
  have dgeq48 : decide ((48 : Int) ≤ (o : Int)) = true := by simp; omega
  have dleq72 : decide ((o : Int) ≤ 72) = false := by simp; omega
  have dgeq80 : decide ((80 : Int) ≤ (o : Int)) = true := by simp; omega
  have dleq83 : decide ((o : Int) ≤ 83) = false := by simp; omega
  have deql89 : decide ((o : Int) = 89) = false := by simp; omega
  have dgeq94 : decide ((94 : Int) ≤ (o : Int)) = true := by simp; omega
  have dleq159 : decide ((o : Int) ≤ 159) = true := by simp; omega
  have dgeq86 : decide ((86 : Int) ≤ (o : Int)) = true := by simp; omega
  have dleq88 : decide ((o : Int) ≤ 88) = false := by simp; omega
  have deql90 : decide ((o : Int) = 90) = false := by simp; omega
  have deql91 : decide ((o : Int) = 91) = false := by simp; omega
  have deql84 : decide ((o : Int) = 84) = false := by simp; omega
  have deql85 : decide ((o : Int) = 85) = false := by simp; omega
  have deql92 : decide ((o : Int) = 92) = false := by simp; omega
  have deql93 : decide ((o : Int) = 93) = false := by simp; omega
  have dgeq160 : decide ((160 : Int) ≤ (o : Int)) = false := by simp; omega
  have dleq164 : decide ((o : Int) ≤ 164) = true := by simp; omega
  have deql240 : decide ((o : Int) = 240) = false := by simp; omega
  have deql241 : decide ((o : Int) = 241) = false := by simp; omega
  have deql242 : decide ((o : Int) = 242) = false := by simp; omega
  have deql244 : decide ((o : Int) = 244) = false := by simp; omega
  have deql245 : decide ((o : Int) = 245) = false := by simp; omega
  have deql250 : decide ((o : Int) = 250) = false := by simp; omega
  have deql255 : decide ((o : Int) = 255) = false := by simp; omega
  go_enter Salg.func118, Salg.ntmps118
  go_wp2_with fail
  go_ret
  exact ⟨rfl, rfl⟩

set_option maxHeartbeats 4000000 in
set_option maxRecDepth 100000 in
theorem arity_pop (w : World) : Calls Salg.prog 181 #[.int .u8 80] w fun e w' => e = .returned (.tuple #[.int .i64 1, .int .i64 0, .bool true]) ∧ w' = w := by
  have HF := hid (family_pop w)
  go_enter Salg.func181, Salg.ntmps181
  go_wp2_with fail
  refine HF.out.mono ?_
  rintro e w1 ⟨rfl, rfl⟩
  go_wp2_with fail
  go_ret3
  exact ⟨rfl, rfl⟩

set_option maxHeartbeats 4000000 in
set_option maxRecDepth 100000 in
theorem arity_push0 (w : World) : Calls Salg.prog 181 #[.int .u8 95] w fun e w' => e = .returned (.tuple #[.int .i64 0, .int .i64 1, .bool true]) ∧ w' = w := by
  have HF := hid (family_push0 w)
  go_enter Salg.func181, Salg.ntmps181
  go_wp2_with fail
  refine HF.out.mono ?_
  rintro e w1 ⟨rfl, rfl⟩
  go_wp2_with fail
  refine HF.out.mono ?_
  rintro e w1 ⟨rfl, rfl⟩
  go_wp2_with fail
  go_ret3
  exact ⟨rfl, rfl⟩

set_option maxHeartbeats 4000000 in
set_option maxRecDepth 100000 in
theorem arity_push (o : Nat) (w : World) (h1 : 96 ≤ o) (h2 : o ≤ 127) : Calls Salg.prog 181 #[.int .u8 o] w fun e w' => e = .returned (.tuple #[.int .i64 0, .int .i64 1, .bool true]) ∧ w' = w := by
  have deql0 : decide ((o : Int) = 0) = false := by simp; omega
  have dgeq128 : decide ((128 : Int) ≤ (o : Int)) = false := by simp; omega
  have dleq143 : decide ((o : Int) ≤ 143) = true := by simp; omega
  have dgeq144 : decide ((144 : Int) ≤ (o : Int)) = false := by simp; omega
  have dleq159 : decide ((o : Int) ≤ 159) = true := by simp; omega
  have dgeq160 : decide ((160 : Int) ≤ (o : Int)) = false := by simp; omega
  have dleq164 : decide ((o : Int) ≤ 164) = true := by simp; omega
  have deql91 : decide ((o : Int) = 91) = false := by simp; omega
  have deql255 : decide ((o : Int) = 255) = false := by simp; omega
  have deql80 : decide ((o : Int) = 80) = false := by simp; omega
  have deql86 : decide ((o : Int) = 86) = false := by simp; omega
  have deql8 : decide ((o : Int) = 8) = false := by simp; omega
  have deql9 : decide ((o : Int) = 9) = false := by simp; omega
  have deql240 : decide ((o : Int) = 240) = false := by simp; omega
  have deql21 : decide ((o : Int) = 21) = false := by simp; omega
  have deql25 : decide ((o : Int) = 25) = false := by simp; omega
  have deql49 : decide ((o : Int) = 49) = false := by simp; omega
  have deql53 : decide ((o : Int) = 53) = false := by simp; omega
  have deql59 : decide ((o : Int) = 59) = false := by simp; omega
  have deql63 : decide ((o : Int) = 63) = false := by simp; omega
  have deql64 : decide ((o : Int) = 64) = false := by simp; omega
  have deql81 : decide ((o : Int) = 81) = false := by simp; omega
  have deql84 : decide ((o : Int) = 84) = false := by simp; omega
  have deql92 : decide ((o : Int) = 92) = false := by simp; omega
  have deql82 : decide ((o : Int) = 82) = false := by simp; omega
  have deql83 : decide ((o : Int) = 83) = false := by simp; omega
  have deql85 : decide ((o : Int) = 85) = false := by simp; omega
  have deql93 : decide ((o : Int) = 93) = false := by simp; omega
  have deql87 : decide ((o : Int) = 87) = false := by simp; omega
  have deql243 : decide ((o : Int) = 243) = false := by simp; omega
  have deql253 : decide ((o : Int) = 253) = false := by simp; omega
  have deql55 : decide ((o : Int) = 55) = false := by simp; omega
  have deql57 : decide ((o : Int) = 57) = false := by simp; omega
  have deql62 : decide ((o : Int) = 62) = false := by simp; omega
  have deql94 : decide ((o : Int) = 94) = false := by simp; omega
  have deql60 : decide ((o : Int) = 60) = false := by simp; omega
  have deql245 : decide ((o : Int) = 245) = false := by simp; omega
  have deql241 : decide ((o : Int) = 241) = false := by simp; omega
  have deql242 : decide ((o : Int) = 242) = false := by simp; omega
  have deql244 : decide ((o : Int) = 244) = false := by simp; omega
  have deql250 : decide ((o : Int) = 250) = false := by simp; omega
  have deql1 : decide ((o : Int) = 1) = false := by simp; omega
  have HF := hid (family_push o w h1 h2)
  go_enter Salg.func181, Salg.ntmps181
  go_wp2_with fail
  refine HF.out.mono ?_
  rintro e w1 ⟨rfl, rfl⟩
  go_wp2_with fail
  refine HF.out.mono ?_
  rintro e w1 ⟨rfl, rfl⟩
  go_wp2_with fail
  go_ret3
  exact ⟨rfl, rfl⟩

set_option maxHeartbeats 4000000 in
set_option maxRecDepth 100000 in
theorem arity_dup (o : Nat) (w : World) (h1 : 128 ≤ o) (h2 : o ≤ 143) : Calls Salg.prog 181 #[.int .u8 o] w fun e w' => e = .returned (.tuple #[.int .i64 ((o - 127 : Nat) : Int), .int .i64 ((o - 126 : Nat) : Int), .bool true]) ∧ w' = w := by
  have deql0 : decide ((o : Int) = 0) = false := by simp; omega
  have dgeq128 : decide ((128 : Int) ≤ (o : Int)) = true := by simp; omega
  have dleq143 : decide ((o : Int) ≤ 143) = true := by simp; omega
  have dgeq144 : decide ((144 : Int) ≤ (o : Int)) = false := by simp; omega
  have dleq159 : decide ((o : Int) ≤ 159) = true := by simp; omega
  have dgeq160 : decide ((160 : Int) ≤ (o : Int)) = false := by simp; omega
  have dleq164 : decide ((o : Int) ≤ 164) = true := by simp; omega
  have deql91 : decide ((o : Int) = 91) = false := by simp; omega
  have deql255 : decide ((o : Int) = 255) = false := by simp; omega
  have deql80 : decide ((o : Int) = 80) = false := by simp; omega
  have deql86 : decide ((o : Int) = 86) = false := by simp; omega
  have deql8 : decide ((o : Int) = 8) = false := by simp; omega
  have deql9 : decide ((o : Int) = 9) = false := by simp; omega
  have deql240 : decide ((o : Int) = 240) = false := by simp; omega
  have deql21 : decide ((o : Int) = 21) = false := by simp; omega
  have deql25 : decide ((o : Int) = 25) = false := by simp; omega
  have deql49 : decide ((o : Int) = 49) = false := by simp; omega
  have deql53 : decide ((o : Int) = 53) = false := by simp; omega
  have deql59 : decide ((o : Int) = 59) = false := by simp; omega
  have deql63 : decide ((o : Int) = 63) = false := by simp; omega
  have deql64 : decide ((o : Int) = 64) = false := by simp; omega
  have deql81 : decide ((o : Int) = 81) = false := by simp; omega
  have deql84 : decide ((o : Int) = 84) = false := by simp; omega
  have deql92 : decide ((o : Int) = 92) = false := by simp; omega
  have deql82 : decide ((o : Int) = 82) = false := by simp; omega
  have deql83 : decide ((o : Int) = 83) = false := by simp; omega
  have deql85 : decide ((o : Int) = 85) = false := by simp; omega
  have deql93 : decide ((o : Int) = 93) = false := by simp; omega
  have deql87 : decide ((o : Int) = 87) = false := by simp; omega
  have deql243 : decide ((o : Int) = 243) = false := by simp; omega
  have deql253 : decide ((o : Int) = 253) = false := by simp; omega
  have deql55 : decide ((o : Int) = 55) = false := by simp; omega
  have deql57 : decide ((o : Int) = 57) = false := by simp; omega
  have deql62 : decide ((o : Int) = 62) = false := by simp; omega
  have deql94 : decide ((o : Int) = 94) = false := by simp; omega
  have deql60 : decide ((o : Int) = 60) = false := by simp; omega
  have deql245 : decide ((o : Int) = 245) = false := by simp; omega
  have deql241 : decide ((o : Int) = 241) = false := by simp; omega
  have deql242 : decide ((o : Int) = 242) = false := by simp; omega
  have deql244 : decide ((o : Int) = 244) = false := by simp; omega
  have deql250 : decide ((o : Int) = 250) = false := by simp; omega
  have deql1 : decide ((o : Int) = 1) = false := by simp; omega
  have HF := hid (family_dup o w h1 h2)
  go_enter Salg.func181, Salg.ntmps181
  go_wp2_with fail
  refine HF.out.mono ?_
  rintro e w1 ⟨rfl, rfl⟩
  go_wp2_with fail
  go_ret3
  exact ⟨by go_num, rfl⟩

set_option maxHeartbeats 4000000 in
set_option maxRecDepth 100000 in
theorem arity_swap (o : Nat) (w : World) (h1 : 144 ≤ o) (h2 : o ≤ 159) : Calls Salg.prog 181 #[.int .u8 o] w fun e w' => e = .returned (.tuple #[.int .i64 ((o - 142 : Nat) : Int), .int .i64 ((o - 142 : Nat) : Int), .bool true]) ∧ w' = w := by
  have deql0 : decide ((o : Int) = 0) = false := by simp; omega
  have dgeq128 : decide ((128 : Int) ≤ (o : Int)) = true := by simp; omega
  have dleq143 : decide ((o : Int) ≤ 143) = false := by simp; omega
  have dgeq144 : decide ((144 : Int) ≤ (o : Int)) = true := by simp; omega
  have dleq159 : decide ((o : Int) ≤ 159) = true := by simp; omega
  have dgeq160 : decide ((160 : Int) ≤ (o : Int)) = false := by simp; omega
  have dleq164 : decide ((o : Int) ≤ 164) = true := by simp; omega
  have deql91 : decide ((o : Int) = 91) = false := by simp; omega
  have deql255 : decide ((o : Int) = 255) = false := by simp; omega
  have deql80 : decide ((o : Int) = 80) = false := by simp; omega
  have deql86 : decide ((o : Int) = 86) = false := by simp; omega
  have deql8 : decide ((o : Int) = 8) = false := by simp; omega
  have deql9 : decide ((o : Int) = 9) = false := by simp; omega
  have deql240 : decide ((o : Int) = 240) = false := by simp; omega
  have deql21 : decide ((o : Int) = 21) = false := by simp; omega
  have deql25 : decide ((o : Int) = 25) = false := by simp; omega
  have deql49 : decide ((o : Int) = 49) = false := by simp; omega
  have deql53 : decide ((o : Int) = 53) = false := by simp; omega
  have deql59 : decide ((o : Int) = 59) = false := by simp; omega
  have deql63 : decide ((o : Int) = 63) = false := by simp; omega
  have deql64 : decide ((o : Int) = 64) = false := by simp; omega
  have deql81 : decide ((o : Int) = 81) = false := by simp; omega
  have deql84 : decide ((o : Int) = 84) = false := by simp; omega
  have deql92 : decide ((o : Int) = 92) = false := by simp; omega
  have deql82 : decide ((o : Int) = 82) = false := by simp; omega
  have deql83 : decide ((o : Int) = 83) = false := by simp; omega
  have deql85 : decide ((o : Int) = 85) = false := by simp; omega
  have deql93 : decide ((o : Int) = 93) = false := by simp; omega
  have deql87 : decide ((o : Int) = 87) = false := by simp; omega
  have deql243 : decide ((o : Int) = 243) = false := by simp; omega
  have deql253 : decide ((o : Int) = 253) = false := by simp; omega
  have deql55 : decide ((o : Int) = 55) = false := by simp; omega
  have deql57 : decide ((o : Int) = 57) = false := by simp; omega
  have deql62 : decide ((o : Int) = 62) = false := by simp; omega
  have deql94 : decide ((o : Int) = 94) = false := by simp; omega
  have deql60 : decide ((o : Int) = 60) = false := by simp; omega
  have deql245 : decide ((o : Int) = 245) = false := by simp; omega
  have deql241 : decide ((o : Int) = 241) = false := by simp; omega
  have deql242 : decide ((o : Int) = 242) = false := by simp; omega
  have deql244 : decide ((o : Int) = 244) = false := by simp; omega
  have deql250 : decide ((o : Int) = 250) = false := by simp; omega
  have deql1 : decide ((o : Int) = 1) = false := by simp; omega
  have HF := hid (family_swap o w h1 h2)
  go_enter Salg.func181, Salg.ntmps181
  go_wp2_with fail
  refine HF.out.mono ?_
  rintro e w1 ⟨rfl, rfl⟩
  go_wp2_with fail
  go_ret3
  exact ⟨by go_num, rfl⟩
end Go.Proofs.YgcsalGreat

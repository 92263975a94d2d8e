/-
  The walks of (*yp.Frame).reach and (*yp.State).bareCost at PUSH, DUP, SWAP and POP; what the five kinds have in common.
-/
import Derived.Test.YgcsalGreatMv15
import Derived.Test.YgcsalGreatMv3
set_option linter.unusedSimpArgs false
set_option linter.unusedVariables false
namespace Go.Proofs.YgcsalGreat
open Go.RowKit Go.Own

set_option maxHeartbeats 4000000 in
set_option maxRecDepth 100000 in
theorem reach_pop (f : Value) (w : World) : Calls Salg.prog 114 #[f, .int .u8 80] w fun e w' => e = .returned (.slice none 0 0) ∧ w' = w := by
  go_enter Salg.func114, Salg.ntmps114
  go_wp2_with fail
  go_ret
  exact ⟨rfl, rfl⟩

set_option maxHeartbeats 4000000 in
set_option maxRecDepth 100000 in
theorem reach_push0 (f : Value) (w : World) : Calls Salg.prog 114 #[f, .int .u8 95] w fun e w' => e = .returned (.slice none 0 0) ∧ w' = w := by
  go_enter Salg.func114, Salg.ntmps114
  go_wp2_with fail
  go_ret
  exact ⟨rfl, rfl⟩

set_option maxHeartbeats 4000000 in
set_option maxRecDepth 100000 in
theorem reach_push (f : Value) (o : Nat) (w : World) (h1 : 96 ≤ o) (h2 : o ≤ 127) : Calls Salg.prog 114 #[f, .int .u8 o] w fun e w' => e = .returned (.slice none 0 0) ∧ w' = w := by
  have deql32 : decide ((o : Int) = 32) = false := by simp; omega
  have deql243 : decide ((o : Int) = 243) = false := by simp; omega
  have deql253 : decide ((o : Int) = 253) = false := by simp; omega
  have dgeq160 : decide ((160 : Int) ≤ (o : Int)) = false := by simp; omega
  have dleq164 : decide ((o : Int) ≤ 164) = true := by simp; omega
  have deql55 : decide ((o : Int) = 55) = false := by simp; omega
  have deql57 : decide ((o : Int) = 57) = false := by simp; omega
  have deql62 : decide ((o : Int) = 62) = false := by simp; omega
  have deql60 : decide ((o : Int) = 60) = false := by simp; omega
  have deql81 : decide ((o : Int) = 81) = false := by simp; omega
  have deql82 : decide ((o : Int) = 82) = false := by simp; omega
  have deql83 : decide ((o : Int) = 83) = false := by simp; omega
  have deql94 : decide ((o : Int) = 94) = false := by simp; omega
  have deql240 : decide ((o : Int) = 240) = false := by simp; omega
  have deql245 : decide ((o : Int) = 245) = false := by simp; omega
  have deql241 : decide ((o : Int) = 241) = false := by simp; omega
  have deql242 : decide ((o : Int) = 242) = false := by simp; omega
  have deql244 : decide ((o : Int) = 244) = false := by simp; omega
  have deql250 : decide ((o : Int) = 250) = false := by simp; omega
  go_enter Salg.func114, Salg.ntmps114
  go_wp2_with fail
  go_ret
  exact ⟨rfl, rfl⟩

set_option maxHeartbeats 4000000 in
set_option maxRecDepth 100000 in
theorem reach_dup (f : Value) (o : Nat) (w : World) (h1 : 128 ≤ o) (h2 : o ≤ 143) : Calls Salg.prog 114 #[f, .int .u8 o] w fun e w' => e = .returned (.slice none 0 0) ∧ w' = w := by
  have deql32 : decide ((o : Int) = 32) = false := by simp; omega
  have deql243 : decide ((o : Int) = 243) = false := by simp; omega
  have deql253 : decide ((o : Int) = 253) = false := by simp; omega
  have dgeq160 : decide ((160 : Int) ≤ (o : Int)) = false := by simp; omega
  have dleq164 : decide ((o : Int) ≤ 164) = true := by simp; omega
  have deql55 : decide ((o : Int) = 55) = false := by simp; omega
  have deql57 : decide ((o : Int) = 57) = false := by simp; omega
  have deql62 : decide ((o : Int) = 62) = false := by simp; omega
  have deql60 : decide ((o : Int) = 60) = false := by simp; omega
  have deql81 : decide ((o : Int) = 81) = false := by simp; omega
  have deql82 : decide ((o : Int) = 82) = false := by simp; omega
  have deql83 : decide ((o : Int) = 83) = false := by simp; omega
  have deql94 : decide ((o : Int) = 94) = false := by simp; omega
  have deql240 : decide ((o : Int) = 240) = false := by simp; omega
  have deql245 : decide ((o : Int) = 245) = false := by simp; omega
  have deql241 : decide ((o : Int) = 241) = false := by simp; omega
  have deql242 : decide ((o : Int) = 242) = false := by simp; omega
  have deql244 : decide ((o : Int) = 244) = false := by simp; omega
  have deql250 : decide ((o : Int) = 250) = false := by simp; omega
  go_enter Salg.func114, Salg.ntmps114
  go_wp2_with fail
  go_ret
  exact ⟨rfl, rfl⟩

set_option maxHeartbeats 4000000 in
set_option maxRecDepth 100000 in
theorem reach_swap (f : Value) (o : Nat) (w : World) (h1 : 144 ≤ o) (h2 : o ≤ 159) : Calls Salg.prog 114 #[f, .int .u8 o] w fun e w' => e = .returned (.slice none 0 0) ∧ w' = w := by
  have deql32 : decide ((o : Int) = 32) = false := by simp; omega
  have deql243 : decide ((o : Int) = 243) = false := by simp; omega
  have deql253 : decide ((o : Int) = 253) = false := by simp; omega
  have dgeq160 : decide ((160 : Int) ≤ (o : Int)) = false := by simp; omega
  have dleq164 : decide ((o : Int) ≤ 164) = true := by simp; omega
  have deql55 : decide ((o : Int) = 55) = false := by simp; omega
  have deql57 : decide ((o : Int) = 57) = false := by simp; omega
  have deql62 : decide ((o : Int) = 62) = false := by simp; omega
  have deql60 : decide ((o : Int) = 60) = false := by simp; omega
  have deql81 : decide ((o : Int) = 81) = false := by simp; omega
  have deql82 : decide ((o : Int) = 82) = false := by simp; omega
  have deql83 : decide ((o : Int) = 83) = false := by simp; omega
  have deql94 : decide ((o : Int) = 94) = false := by simp; omega
  have deql240 : decide ((o : Int) = 240) = false := by simp; omega
  have deql245 : decide ((o : Int) = 245) = false := by simp; omega
  have deql241 : decide ((o : Int) = 241) = false := by simp; omega
  have deql242 : decide ((o : Int) = 242) = false := by simp; omega
  have deql244 : decide ((o : Int) = 244) = false := by simp; omega
  have deql250 : decide ((o : Int) = 250) = false := by simp; omega
  go_enter Salg.func114, Salg.ntmps114
  go_wp2_with fail
  go_ret
  exact ⟨rfl, rfl⟩

set_option maxHeartbeats 4000000 in
set_option maxRecDepth 100000 in
theorem bareCost_pop (st f : Value) (w : World) : Calls Salg.prog 217 #[st, f, .int .u8 80] w fun e w' => ∃ r, e = .returned r ∧ NumV w' r 2 ∧ Kept [] w w' := by
  have HF := hid (family_pop w)
  go_enter Salg.func217, Salg.ntmps217
  go_wp2_with fail
  refine HF.out.mono ?_
  rintro e w1 ⟨rfl, rfl⟩
  go_wp2_with fail
  refine (num_int _ 2 rfl (by decide) _).mono ?_
  rintro e w1 ⟨r, rfl, hr, K⟩
  have HR := hid hr
  clear hr
  go_wp2_with fail
  go_ret
  exact ⟨_, rfl, HR.out, K⟩

set_option maxHeartbeats 4000000 in
set_option maxRecDepth 100000 in
theorem bareCost_push0 (st f : Value) (w : World) : Calls Salg.prog 217 #[st, f, .int .u8 95] w fun e w' => ∃ r, e = .returned r ∧ NumV w' r 2 ∧ Kept [] w w' := by
  have HF := hid (family_push0 w)
  go_enter Salg.func217, Salg.ntmps217
  go_wp2_with fail
  refine HF.out.mono ?_
  rintro e w1 ⟨rfl, rfl⟩
  go_wp2_with fail
  refine (num_int _ 2 rfl (by decide) _).mono ?_
  rintro e w1 ⟨r, rfl, hr, K⟩
  have HR := hid hr
  clear hr
  go_wp2_with fail
  go_ret
  exact ⟨_, rfl, HR.out, K⟩

set_option maxHeartbeats 4000000 in
set_option maxRecDepth 100000 in
theorem bareCost_push (st f : Value) (o : Nat) (w : World) (h1 : 96 ≤ o) (h2 : o ≤ 127) : Calls Salg.prog 217 #[st, f, .int .u8 o] w fun e w' => ∃ r, e = .returned r ∧ NumV w' r 3 ∧ Kept [] w w' := by
  have dgeq96 : decide ((96 : Int) ≤ (o : Int)) = true := by simp; omega
  have dleq159 : decide ((o : Int) ≤ 159) = true := by simp; omega
  have dgeq16 : decide ((16 : Int) ≤ (o : Int)) = true := by simp; omega
  have dleq29 : decide ((o : Int) ≤ 29) = false := by simp; omega
  have deql1 : decide ((o : Int) = 1) = false := by simp; omega
  have deql3 : decide ((o : Int) = 3) = false := by simp; omega
  have deql53 : decide ((o : Int) = 53) = false := by simp; omega
  have dgeq81 : decide ((81 : Int) ≤ (o : Int)) = true := by simp; omega
  have dleq83 : decide ((o : Int) ≤ 83) = false := by simp; omega
  have deql2 : decide ((o : Int) = 2) = false := by simp; omega
  have dgeq4 : decide ((4 : Int) ≤ (o : Int)) = true := by simp; omega
  have dleq7 : decide ((o : Int) ≤ 7) = false := by simp; omega
  have deql11 : decide ((o : Int) = 11) = false := by simp; omega
  have deql71 : decide ((o : Int) = 71) = false := by simp; omega
  have deql8 : decide ((o : Int) = 8) = false := by simp; omega
  have deql9 : decide ((o : Int) = 9) = false := by simp; omega
  have deql86 : decide ((o : Int) = 86) = false := by simp; omega
  have deql87 : decide ((o : Int) = 87) = false := by simp; omega
  have deql91 : decide ((o : Int) = 91) = false := by simp; omega
  have deql64 : decide ((o : Int) = 64) = false := by simp; omega
  have deql0 : decide ((o : Int) = 0) = false := by simp; omega
  have deql243 : decide ((o : Int) = 243) = false := by simp; omega
  have deql253 : decide ((o : Int) = 253) = false := by simp; omega
  have deql10 : decide ((o : Int) = 10) = false := by simp; omega
  have deql32 : decide ((o : Int) = 32) = false := by simp; omega
  have deql55 : decide ((o : Int) = 55) = false := by simp; omega
  have deql57 : decide ((o : Int) = 57) = false := by simp; omega
  have deql62 : decide ((o : Int) = 62) = false := by simp; omega
  have deql94 : decide ((o : Int) = 94) = false := by simp; omega
  have deql49 : decide ((o : Int) = 49) = false := by simp; omega
  have deql59 : decide ((o : Int) = 59) = false := by simp; omega
  have deql63 : decide ((o : Int) = 63) = false := by simp; omega
  have deql60 : decide ((o : Int) = 60) = false := by simp; omega
  have dgeq160 : decide ((160 : Int) ≤ (o : Int)) = false := by simp; omega
  have dleq164 : decide ((o : Int) ≤ 164) = true := by simp; omega
  have deql84 : decide ((o : Int) = 84) = false := by simp; omega
  have deql85 : decide ((o : Int) = 85) = false := by simp; omega
  have deql92 : decide ((o : Int) = 92) = false := by simp; omega
  have deql93 : decide ((o : Int) = 93) = false := by simp; omega
  have deql255 : decide ((o : Int) = 255) = false := by simp; omega
  have deql16 : decide ((o : Int) = 16) = false := by simp; omega
  have HF := hid (family_push o w h1 h2)
  go_enter Salg.func217, Salg.ntmps217
  go_wp2_with fail
  refine (num_int _ 3 rfl (by decide) _).mono ?_
  rintro e w1 ⟨r, rfl, hr, K⟩
  have HR := hid hr
  clear hr
  go_wp2_with fail
  go_ret
  exact ⟨_, rfl, HR.out, K⟩

set_option maxHeartbeats 4000000 in
set_option maxRecDepth 100000 in
theorem bareCost_dup (st f : Value) (o : Nat) (w : World) (h1 : 128 ≤ o) (h2 : o ≤ 143) : Calls Salg.prog 217 #[st, f, .int .u8 o] w fun e w' => ∃ r, e = .returned r ∧ NumV w' r 3 ∧ Kept [] w w' := by
  have dgeq96 : decide ((96 : Int) ≤ (o : Int)) = true := by simp; omega
  have dleq159 : decide ((o : Int) ≤ 159) = true := by simp; omega
  have dgeq16 : decide ((16 : Int) ≤ (o : Int)) = true := by simp; omega
  have dleq29 : decide ((o : Int) ≤ 29) = false := by simp; omega
  have deql1 : decide ((o : Int) = 1) = false := by simp; omega
  have deql3 : decide ((o : Int) = 3) = false := by simp; omega
  have deql53 : decide ((o : Int) = 53) = false := by simp; omega
  have dgeq81 : decide ((81 : Int) ≤ (o : Int)) = true := by simp; omega
  have dleq83 : decide ((o : Int) ≤ 83) = false := by simp; omega
  have deql2 : decide ((o : Int) = 2) = false := by simp; omega
  have dgeq4 : decide ((4 : Int) ≤ (o : Int)) = true := by simp; omega
  have dleq7 : decide ((o : Int) ≤ 7) = false := by simp; omega
  have deql11 : decide ((o : Int) = 11) = false := by simp; omega
  have deql71 : decide ((o : Int) = 71) = false := by simp; omega
  have deql8 : decide ((o : Int) = 8) = false := by simp; omega
  have deql9 : decide ((o : Int) = 9) = false := by simp; omega
  have deql86 : decide ((o : Int) = 86) = false := by simp; omega
  have deql87 : decide ((o : Int) = 87) = false := by simp; omega
  have deql91 : decide ((o : Int) = 91) = false := by simp; omega
  have deql64 : decide ((o : Int) = 64) = false := by simp; omega
  have deql0 : decide ((o : Int) = 0) = false := by simp; omega
  have deql243 : decide ((o : Int) = 243) = false := by simp; omega
  have deql253 : decide ((o : Int) = 253) = false := by simp; omega
  have deql10 : decide ((o : Int) = 10) = false := by simp; omega
  have deql32 : decide ((o : Int) = 32) = false := by simp; omega
  have deql55 : decide ((o : Int) = 55) = false := by simp; omega
  have deql57 : decide ((o : Int) = 57) = false := by simp; omega
  have deql62 : decide ((o : Int) = 62) = false := by simp; omega
  have deql94 : decide ((o : Int) = 94) = false := by simp; omega
  have deql49 : decide ((o : Int) = 49) = false := by simp; omega
  have deql59 : decide ((o : Int) = 59) = false := by simp; omega
  have deql63 : decide ((o : Int) = 63) = false := by simp; omega
  have deql60 : decide ((o : Int) = 60) = false := by simp; omega
  have dgeq160 : decide ((160 : Int) ≤ (o : Int)) = false := by simp; omega
  have dleq164 : decide ((o : Int) ≤ 164) = true := by simp; omega
  have deql84 : decide ((o : Int) = 84) = false := by simp; omega
  have deql85 : decide ((o : Int) = 85) = false := by simp; omega
  have deql92 : decide ((o : Int) = 92) = false := by simp; omega
  have deql93 : decide ((o : Int) = 93) = false := by simp; omega
  have deql255 : decide ((o : Int) = 255) = false := by simp; omega
  have deql16 : decide ((o : Int) = 16) = false := by simp; omega
  have HF := hid (family_dup o w h1 h2)
  go_enter Salg.func217, Salg.ntmps217
  go_wp2_with fail
  refine (num_int _ 3 rfl (by decide) _).mono ?_
  rintro e w1 ⟨r, rfl, hr, K⟩
  have HR := hid hr
  clear hr
  go_wp2_with fail
  go_ret
  exact ⟨_, rfl, HR.out, K⟩

set_option maxHeartbeats 4000000 in
set_option maxRecDepth 100000 in
theorem bareCost_swap (st f : Value) (o : Nat) (w : World) (h1 : 144 ≤ o) (h2 : o ≤ 159) : Calls Salg.prog 217 #[st, f, .int .u8 o] w fun e w' => ∃ r, e = .returned r ∧ NumV w' r 3 ∧ Kept [] w w' := by
  have dgeq96 : decide ((96 : Int) ≤ (o : Int)) = true := by simp; omega
  have dleq159 : decide ((o : Int) ≤ 159) = true := by simp; omega
  have dgeq16 : decide ((16 : Int) ≤ (o : Int)) = true := by simp; omega
  have dleq29 : decide ((o : Int) ≤ 29) = false := by simp; omega
  have deql1 : decide ((o : Int) = 1) = false := by simp; omega
  have deql3 : decide ((o : Int) = 3) = false := by simp; omega
  have deql53 : decide ((o : Int) = 53) = false := by simp; omega
  have dgeq81 : decide ((81 : Int) ≤ (o : Int)) = true := by simp; omega
  have dleq83 : decide ((o : Int) ≤ 83) = false := by simp; omega
  have deql2 : decide ((o : Int) = 2) = false := by simp; omega
  have dgeq4 : decide ((4 : Int) ≤ (o : Int)) = true := by simp; omega
  have dleq7 : decide ((o : Int) ≤ 7) = false := by simp; omega
  have deql11 : decide ((o : Int) = 11) = false := by simp; omega
  have deql71 : decide ((o : Int) = 71) = false := by simp; omega
  have deql8 : decide ((o : Int) = 8) = false := by simp; omega
  have deql9 : decide ((o : Int) = 9) = false := by simp; omega
  have deql86 : decide ((o : Int) = 86) = false := by simp; omega
  have deql87 : decide ((o : Int) = 87) = false := by simp; omega
  have deql91 : decide ((o : Int) = 91) = false := by simp; omega
  have deql64 : decide ((o : Int) = 64) = false := by simp; omega
  have deql0 : decide ((o : Int) = 0) = false := by simp; omega
  have deql243 : decide ((o : Int) = 243) = false := by simp; omega
  have deql253 : decide ((o : Int) = 253) = false := by simp; omega
  have deql10 : decide ((o : Int) = 10) = false := by simp; omega
  have deql32 : decide ((o : Int) = 32) = false := by simp; omega
  have deql55 : decide ((o : Int) = 55) = false := by simp; omega
  have deql57 : decide ((o : Int) = 57) = false := by simp; omega
  have deql62 : decide ((o : Int) = 62) = false := by simp; omega
  have deql94 : decide ((o : Int) = 94) = false := by simp; omega
  have deql49 : decide ((o : Int) = 49) = false := by simp; omega
  have deql59 : decide ((o : Int) = 59) = false := by simp; omega
  have deql63 : decide ((o : Int) = 63) = false := by simp; omega
  have deql60 : decide ((o : Int) = 60) = false := by simp; omega
  have dgeq160 : decide ((160 : Int) ≤ (o : Int)) = false := by simp; omega
  have dleq164 : decide ((o : Int) ≤ 164) = true := by simp; omega
  have deql84 : decide ((o : Int) = 84) = false := by simp; omega
  have deql85 : decide ((o : Int) = 85) = false := by simp; omega
  have deql92 : decide ((o : Int) = 92) = false := by simp; omega
  have deql93 : decide ((o : Int) = 93) = false := by simp; omega
  have deql255 : decide ((o : Int) = 255) = false := by simp; omega
  have deql16 : decide ((o : Int) = 16) = false := by simp; omega
  have HF := hid (family_swap o w h1 h2)
  go_enter Salg.func217, Salg.ntmps217
  go_wp2_with fail
  refine (num_int _ 3 rfl (by decide) _).mono ?_
  rintro e w1 ⟨r, rfl, hr, K⟩
  have HR := hid hr
  clear hr
  go_wp2_with fail
  go_ret
  exact ⟨_, rfl, HR.out, K⟩

/-- What PUSH, DUP, SWAP and POP have in common. -/
structure OpK (o t g i c : Nat) : Prop where
  rng : o = 80 ∨ (95 ≤ o ∧ o ≤ 159)
  fam : ∀ w, Calls Salg.prog 118 #[.int .u8 o] w fun e w' => e = .returned (.int .u8 2) ∧ w' = w
  ar : ∀ w, Calls Salg.prog 181 #[.int .u8 o] w fun e w' => e = .returned (.tuple #[.int .i64 t, .int .i64 g, .bool true]) ∧ w' = w
  im : ∀ w, Calls Salg.prog 195 #[.int .u8 o] w fun e w' => e = .returned (.int .u8 i) ∧ w' = w
  re : ∀ f w, Calls Salg.prog 114 #[f, .int .u8 o] w fun e w' => e = .returned (.slice none 0 0) ∧ w' = w
  co : ∀ st f w, Calls Salg.prog 217 #[st, f, .int .u8 o] w fun e w' => ∃ r, e = .returned r ∧ NumV w' r c ∧ Kept [] w w'
  ht : t ≤ 17
  hg : g ≤ 17
  hc : c ≤ 3
  hi : i ≤ 32
theorem opk_pop : OpK 80 1 0 0 2 := ⟨.inl rfl, family_pop, arity_pop, fun w => imm_other 80 w (.inl (by decide)), reach_pop, bareCost_pop, by decide, by decide, by decide, by decide⟩
theorem opk_push0 : OpK 95 0 1 0 2 := ⟨.inr (by decide), family_push0, arity_push0, fun w => imm_other 95 w (.inl (by decide)), reach_push0, bareCost_push0, by decide, by decide, by decide, by decide⟩
theorem opk_push (o : Nat) (h1 : 96 ≤ o) (h2 : o ≤ 127) : OpK o 0 1 (o - 95) 3 := ⟨.inr (by omega), fun w => family_push o w h1 h2, fun w => arity_push o w h1 h2, fun w => imm_push o w h1 h2, fun f w => reach_push f o w h1 h2, fun st f w => bareCost_push st f o w h1 h2, by decide, by decide, by decide, by omega⟩
theorem opk_dup (o : Nat) (h1 : 128 ≤ o) (h2 : o ≤ 143) : OpK o (o - 127) (o - 126) 0 3 := ⟨.inr (by omega), fun w => family_dup o w h1 h2, fun w => arity_dup o w h1 h2, fun w => imm_other o w (.inr (by omega)), fun f w => reach_dup f o w h1 h2, fun st f w => bareCost_dup st f o w h1 h2, by omega, by omega, by decide, by decide⟩
theorem opk_swap (o : Nat) (h1 : 144 ≤ o) (h2 : o ≤ 159) : OpK o (o - 142) (o - 142) 0 3 := ⟨.inr (by omega), fun w => family_swap o w h1 h2, fun w => arity_swap o w h1 h2, fun w => imm_other o w (.inr (by omega)), fun f w => reach_swap f o w h1 h2, fun st f w => bareCost_swap st f o w h1 h2, by omega, by omega, by decide, by decide⟩
end Go.Proofs.YgcsalGreat

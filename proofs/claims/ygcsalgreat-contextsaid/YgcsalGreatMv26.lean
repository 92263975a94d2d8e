/-
  The walk of law.stepped; the run of the seventeen pushes and the last instruction.
-/
import Derived.Test.YgcsalGreatMv25
set_option linter.unusedSimpArgs false
set_option linter.unusedVariables false
namespace Go.Proofs.YgcsalGreat
open Go.RowKit Go.Own

set_option maxHeartbeats 4000000 in
set_option maxRecDepth 100000 in
theorem stepped_any (c n : Nat) (S : Nat → World → Prop) (w : World) (hn : n ≤ 1000) (h0 : S 0 w) (hs : ∀ j w, j < n → S j w → Calls Salg.prog 27 #[.pointer (some ⟨c, 0, none⟩)] w fun e w' => ∃ r, e = .returned r ∧ S (j + 1) w') :
    Calls Salg.prog 18 #[.pointer (some ⟨c, 0, none⟩), .int .i64 n] w fun e w' => ∃ r, e = .returned r ∧ S n w' := by
  have H0 := hid h0
  have HS := hid hs
  clear h0 hs
  go_enter Salg.func18, Salg.ntmps18
  go_wp2_with fail
  go_loopw [1] (fun iv wr => ∃ j : Nat, j ≤ n ∧ iv = .int .i64 ((n - j : Nat) : Int) ∧ S j wr) (fun iv _ => (intOf iv).toNat)
  case atStart => exact ⟨0, by omega, by simp, H0.out⟩
  case round =>
    obtain ⟨j, hj, rfl, xS⟩ := hrel
    have HJ := hid xS
    clear xS H0
    rcases Nat.lt_or_ge j n with hlt | hge
    · have d1 : decide ((0 : Int) < ((n - j : Nat) : Int)) = true := by simp; omega
      go_wp2_with fail
      refine (HS.out j _ hlt HJ.out).mono ?_
      rintro e w1 ⟨r, rfl, xS⟩
      have HJ2 := hid xS
      clear xS
      go_wp2_with fail
      go_roundw
      case rel => exact ⟨j + 1, by omega, by go_num, HJ2.out⟩
      case measure => simp [intOf]; omega
    · have hjn : j = n := by omega
      subst hjn
      have d1 : decide ((0 : Int) < ((j - j : Nat) : Int)) = false := by simp
      go_wp2_with fail
      go_end0
      exact ⟨_, rfl, HJ.out⟩
end Go.Proofs.YgcsalGreat

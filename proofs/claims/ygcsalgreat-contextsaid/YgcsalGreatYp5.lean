/-
  The walks of yp.magnitude, yp.truth.
-/
import Derived.Test.YgcsalGreatYp4
import Derived.Test.YgcsalGreatAlu4
import Derived.Great.BuildSlice
set_option linter.unusedSimpArgs false
namespace Go.Proofs.YgcsalGreat
open Go.RowKit Go.Own

set_option maxHeartbeats 2000000 in
set_option maxRecDepth 100000 in
theorem magnitude_any (v : Value) (N : Nat) (w : World) (hN : NumV w v N) (hb : N < 2 ^ 256) : Calls Salg.prog 143 #[v] w fun e w' => ∃ u, e = .returned u ∧ NumV w' u (sgn (neg N) N) ∧ Kept [] w w' := by
  have HC := hid (isNegative_any v N w hN hb)
  change Hid (Calls Salg.prog 145 #[v] w fun e w' => e = .returned (.bool (neg N)) ∧ w' = w) at HC
  have HD := hid (withSign_any v N (neg N) w hN (Nat.le_of_lt hb))
  have he : (if neg N then (2 ^ 256 - N) % 2 ^ 256 else N) = sgn (neg N) N := by
    unfold sgn
    split
    · rename_i h
      have h' : 2 ^ 255 ≤ N := by simpa [neg] using h
      have hp : 0 < (2 : Nat) ^ 255 := Nat.pow_pos (by decide)
      rw [Nat.mod_eq_of_lt (by omega)]
    · rfl
  rw [he] at HD
  clear he hN hb
  generalize neg N = t at *
  go_enter Salg.func143, Salg.ntmps143
  go_wp2_with fail
  refine HC.out.mono ?_
  rintro e w2 ⟨rfl, rfl⟩
  go_wp2_with fail
  refine HD.out.mono ?_
  rintro e w3 ⟨u, rfl, hu, K⟩
  go_wp2_with fail
  go_ret
  exact ⟨_, rfl, hu, K⟩
end Go.Proofs.YgcsalGreat

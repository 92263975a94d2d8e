/-
  The walks of law.isNat and law.knownThird.
-/
import Derived.Test.YgcsalGreatDivRem
import Derived.Test.YgcsalGreatDivMidRight
import Derived.Test.YgcsalGreatNormShift
set_option linter.unusedSimpArgs false
namespace Go.Proofs.YgcsalGreat
open Go.RowKit Go.Own

set_option maxHeartbeats 1000000 in
set_option maxRecDepth 100000 in
theorem isNat_yes (vs : List Nat) (v : Value) (w : World) (hv : vs.length = 4) (hL : Limbs vs) (hN : NumV w v (lval vs)) :
    Calls Salg.prog 65 #[A64 vs, v] w fun e w' => e = .returned (.bool true) ∧ Kept [] w w' := by
  have M := Mem.start w []
  have HN := hid hN
  have HW := hid (fun w => wordNat_any vs w hv hL)
  clear hN
  go_enter Salg.func65, Salg.ntmps65
  go_wp2_with (first
    | ((with_reducible apply L_box M); rfl; clear M; intro b1 w1 hb1 M; simp only [Act.put, List.setIfInBounds_toArray, List.set_cons_zero, List.set_cons_succ])
    | ((with_reducible apply W_loadAll); rfl; (first | with_reducible exact M.r0 | with_reducible exact M.r1 | with_reducible exact M.r2 | with_reducible exact M.r3 | with_reducible exact M.r4 | with_reducible exact M.r5 | with_reducible exact M.r6 | assumption | exact M.kept.row (by assumption) (by simp)); exact Salg.underlying25; rfl; (first | with_reducible exact size25 | (rw [size25]; simp [hv])); simp only [Act.put, List.setIfInBounds_toArray, List.set_cons_zero, List.set_cons_succ]))
  refine (HW.out _).mono ?_
  rintro e w2 ⟨u, rfl, hu, K⟩
  replace M := M.call K
  have HU := hid hu
  clear K hu HW
  go_wp2_with fail
  refine (cmp_num _ _ _ _ _ HU.out (HN.out.kept M.kept)).mono ?_
  rintro e w3 ⟨rfl, K⟩
  replace M := M.call K
  clear K
  rw [cmpI_self]
  go_wp2_with fail
  go_ret
  exact ⟨rfl, M.kept⟩

end Go.Proofs.YgcsalGreat

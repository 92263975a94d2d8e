/-
  THE STATEMENT 'Rows.DivKnownSaid'.
-/
import Derived.Test.YgcsalDivKnown
import Derived.Test.YgcsalOpen
namespace Go.Proofs.Ygcsal
open Go.ChangeShapes Go.WideShapes Go.ChangeAt Go.RowKit Go.Own

set_option maxRecDepth 100000 in
theorem divKnown_lifted (os : Os) (started : os.Started) (H : Type) (enc : TypeId × Value → H) :
    ReturnsInHanded {} Salg.checked os 9 .any (Rows.divKnownSpec.pre6 enc Salg.prog Salg.f9 Rows.divKnownRow.domain false) (Rows.divKnownSpec.post enc Salg.prog Salg.f9 false true false false) := by
  refine returnsInHanded_of_change (C := Salg.checked) own started (by kernel_rfl) Salg.func9
    (ChangeSpec.witness6 (enc := enc) (C := Salg.checked) false ⟨#[], #[], []⟩ 8 (by kernel_rfl) (by kernel_rfl) (by kernel_rfl) (by kernel_rfl)) ?_
  intro W base args ds gs before hval0 hW hcnd _
  have hval : ∀ (j : Nat) t v, Salg.f9.params[j]? = some t → args[j]? = some v → Value.okWide Salg.prog W .any base t v := hval0
  have hW' := hW
  obtain ⟨p, q, hA0, hV, rfl, hfz, hnd⟩ := hW
  have hA : DataW.TrodAll enc Salg.prog W 0 (fun _ => true) true Salg.f9.params.toList args.toList ds p := hA0
  rw [Salg.params9] at hA hval
  obtain ⟨rfl, rfl, rfl⟩ := trodAll_none hA
  obtain ⟨rfl, rfl⟩ := trodVars_none hV
  clear hA0 hval0
  refine (divKnown_any W).mono fun e W' ⟨he, hk⟩ => ?_
  have bel := hk.below
  subst he
  exact ⟨_, rfl, _, _, _, [], _, [], hW', trodAll_mk1 (shut_bool Salg.underlying4 _), trodAll_mk0, rfl, bel.frame _, fun h => by cases h⟩

theorem divKnown_proved : Rows.DivKnownSaid :=
  OpenClaim.holds_of_wide 9 Salg.f9 rfl rfl rfl rfl rfl rfl rfl ⟨rfl, rfl, rfl, rfl, rfl⟩ rfl rfl rfl rfl rfl (by kernel_rfl) Salg.func9 (by kernel_rfl)
    (of_decide_eq_true (by kernel_rfl)) (by unfold Func.isWrapper; first | (rw [if_pos (by decide +kernel)]; kernel_rfl) | (rw [if_neg (by decide +kernel)]; exact ⟨rfl, rfl⟩))
    (fun os started H enc _ => divKnown_lifted os started H enc)
end Go.Proofs.Ygcsal

/-
  THE STATEMENT 'Rows.ContextSaid'.
-/
import Derived.Test.YgcsalGreatCx50
import Derived.Test.YgcsalGreatOpen
namespace Go.Proofs.YgcsalGreat
open Go.ChangeShapes Go.WideShapes Go.ChangeAt Go.RowKit Go.Own

set_option maxRecDepth 100000 in
theorem context_lifted (os : Os) (started : os.Started) (H : Type) (enc : TypeId × Value → H) :
    ReturnsInHanded {} Salg.checked os 6 .any (Rows.contextSpec.pre6 enc Salg.prog Salg.f6 Rows.contextRow.domain false) (Rows.contextSpec.post enc Salg.prog Salg.f6 false true false false) := by
  refine returnsInHanded_of_change (C := Salg.checked) own started (by kernel_rfl) Salg.func6
    (ChangeSpec.witness6 (enc := enc) (C := Salg.checked) false ⟨#[], #[.int .u8 0, .int .u8 0, .int .u8 0], []⟩ 8 (by kernel_rfl) (by kernel_rfl) (by kernel_rfl) (by kernel_rfl)) ?_
  intro W base args ds gs before hval0 hW hcnd _
  have hval : ∀ (j : Nat) t v, Salg.f6.params[j]? = some t → args[j]? = some v → Value.okWide Salg.prog W .any base t v := hval0
  have hW' := hW
  obtain ⟨p, q, hA0, hV, rfl, hfz, hnd⟩ := hW
  have hA : DataW.TrodAll enc Salg.prog W 0 (fun _ => true) true Salg.f6.params.toList args.toList ds p := hA0
  rw [Salg.params6] at hA hval
  obtain ⟨v0, vs0, d0, ds0, p0, q0, hargs, rfl, rfl, h0, r0⟩ := trodAll_cons hA
  obtain ⟨v1, vs1, d1, ds1, p1, q1, rfl, rfl, rfl, h1, r1⟩ := trodAll_cons r0
  obtain ⟨v2, vs2, d2, ds2, p2, q2, rfl, rfl, rfl, h2, r2⟩ := trodAll_cons r1
  obtain ⟨rfl, rfl, rfl⟩ := trodAll_nil r2
  obtain rfl : args = #[v0, v1, v2] := by cases args; simp_all
  obtain ⟨rfl, rfl⟩ := trodVars_none hV
  obtain ⟨a0, rfl, rfl, rfl, w0⟩ := open_int Salg.underlying5 (hval 0 5 v0 rfl rfl) h0
  obtain ⟨a1, rfl, rfl, rfl, w1⟩ := open_int Salg.underlying5 (hval 1 5 v1 rfl rfl) h1
  obtain ⟨a2, rfl, rfl, rfl, w2⟩ := open_int Salg.underlying5 (hval 2 5 v2 rfl rfl) h2
  obtain ⟨e0, f0⟩ := bounds_u8 w0
  obtain ⟨kind, rfl⟩ := Int.eq_ofNat_of_zero_le e0
  obtain ⟨e1, f1⟩ := bounds_u8 w1
  obtain ⟨tv, rfl⟩ := Int.eq_ofNat_of_zero_le e1
  obtain ⟨e2, f2⟩ := bounds_u8 w2
  obtain ⟨v, rfl⟩ := Int.eq_ofNat_of_zero_le e2
  clear hA0 hval0
  refine (context_any kind tv v W (by omega)).mono fun e W' ⟨he, hk⟩ => ?_
  have bel := hk.below
  subst he
  exact ⟨_, rfl, _, _, _, [], _, [], hW', trodAll_mk1 (shut_bool Salg.underlying4 _), (trodAll_cons_mk (shut_int Salg.underlying5 w0) (trodAll_cons_mk (shut_int Salg.underlying5 w1) (trodAll_cons_mk (shut_int Salg.underlying5 w2) trodAll_mk0))), rfl, bel.frame _, fun h => by cases h⟩

theorem context_proved : Rows.ContextSaid :=
  OpenClaim.holds_of_wide 6 Salg.f6 rfl rfl rfl rfl rfl rfl rfl ⟨rfl, rfl, rfl, rfl, rfl⟩ rfl rfl rfl rfl rfl (by kernel_rfl) Salg.func6 (by kernel_rfl)
    (of_decide_eq_true (by kernel_rfl)) (by unfold Func.isWrapper; first | (rw [if_pos (by decide +kernel)]; kernel_rfl) | (rw [if_neg (by decide +kernel)]; exact ⟨rfl, rfl⟩))
    (fun os started H enc _ => context_lifted os started H enc)
end Go.Proofs.YgcsalGreat

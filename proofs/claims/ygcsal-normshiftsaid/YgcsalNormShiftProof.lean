/-
  THE STATEMENT 'Rows.NormShiftSaid'.
-/
import Derived.Test.YgcsalNormShift
import Derived.Test.YgcsalOpen
namespace Go.Proofs.Ygcsal
open Go.ChangeShapes Go.WideShapes Go.ChangeAt Go.RowKit Go.Own

set_option maxRecDepth 100000 in
theorem normShift_lifted (os : Os) (started : os.Started) (H : Type) (enc : TypeId × Value → H) :
    ReturnsInHanded {} Salg.checked os 5 .any (Rows.normShiftSpec.pre6 enc Salg.prog Salg.f5 Rows.normShiftRow.domain false) (Rows.normShiftSpec.post enc Salg.prog Salg.f5 false true false false) := by
  refine returnsInHanded_of_change (C := Salg.checked) own started (by kernel_rfl) Salg.func5
    (ChangeSpec.witness6 (enc := enc) (C := Salg.checked) false ⟨#[], #[A8 (List.replicate 72 0), .int .u8 0, .int .u8 0], []⟩ 8 (by kernel_rfl) (by kernel_rfl) (by kernel_rfl) (by kernel_rfl)) ?_
  intro W base args ds gs before hval0 hW hcnd _
  have hval : ∀ (j : Nat) t v, Salg.f5.params[j]? = some t → args[j]? = some v → Value.okWide Salg.prog W .any base t v := hval0
  have hW' := hW
  obtain ⟨p, q, hA0, hV, rfl, hfz, hnd⟩ := hW
  have hA : DataW.TrodAll enc Salg.prog W 0 (fun _ => true) true Salg.f5.params.toList args.toList ds p := hA0
  rw [Salg.params5] at hA hval
  obtain ⟨v0, vs0, d0, ds0, p0, q0, hargs, rfl, rfl, h0, r0⟩ := trodAll_cons hA
  obtain ⟨v2, vs2, d2, ds2, p2, q2, rfl, rfl, rfl, h2, r2⟩ := trodAll_cons r0
  obtain ⟨v3, vs3, d3, ds3, p3, q3, rfl, rfl, rfl, h3, r3⟩ := trodAll_cons r2
  obtain ⟨rfl, rfl, rfl⟩ := trodAll_nil r3
  obtain rfl : args = #[v0, v2, v3] := by cases args; simp_all
  obtain ⟨rfl, rfl⟩ := trodVars_none hV
  obtain ⟨bs, rfl, hn, hb⟩ := open_arr8 Salg.underlying30 cells30 types30 Salg.underlying5 (hval 0 30 v0 rfl rfl)
  obtain ⟨a2, rfl, rfl, rfl, w2⟩ := open_int Salg.underlying5 (hval 1 5 v2 rfl rfl) h2
  obtain ⟨a3, rfl, rfl, rfl, w3⟩ := open_int Salg.underlying5 (hval 2 5 v3 rfl rfl) h3
  have k0 := h0
  have lt0 : ∀ x ∈ p0, x.block < W.heap.size := by obtain ⟨m, hm⟩ := k0; exact DataW.trod_lt m _ _ _ hm
  obtain ⟨e2, f2⟩ := bounds_u8 w2
  obtain ⟨e3, f3⟩ := bounds_u8 w3
  obtain ⟨n, rfl⟩ := Int.eq_ofNat_of_zero_le e2
  obtain ⟨j, rfl⟩ := Int.eq_ofNat_of_zero_le e3
  clear hA0 hval0
  refine (normShift_any bs n j W hn hb (by omega) (by omega)).mono fun e W' ⟨he, hk⟩ => ?_
  have bel := hk.below
  subst he
  exact ⟨_, rfl, _, _, _, [], _, [], hW', trodAll_mk1 (shut_bool Salg.underlying4 _), (trodAll_cons_mk (Below.trod laidOut (by kernel_rfl) (of_decide_eq_true (by kernel_rfl)) k0 bel lt0)
    (trodAll_cons_mk (shut_int Salg.underlying5 w2) (trodAll_cons_mk (shut_int Salg.underlying5 w3) trodAll_mk0))), rfl, bel.frame _, fun h => by cases h⟩

theorem normShift_proved : Rows.NormShiftSaid :=
  OpenClaim.holds_of_wide 5 Salg.f5 rfl rfl rfl rfl rfl rfl rfl ⟨rfl, rfl, rfl, rfl, rfl⟩ rfl rfl rfl rfl rfl (by kernel_rfl) Salg.func5 (by kernel_rfl)
    (of_decide_eq_true (by kernel_rfl)) (by unfold Func.isWrapper; first | (rw [if_pos (by decide +kernel)]; kernel_rfl) | (rw [if_neg (by decide +kernel)]; exact ⟨rfl, rfl⟩))
    (fun os started H enc _ => normShift_lifted os started H enc)
end Go.Proofs.Ygcsal

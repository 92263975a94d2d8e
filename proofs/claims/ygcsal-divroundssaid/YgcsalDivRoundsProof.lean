/-
  THE STATEMENT 'Rows.DivRoundsSaid'.
-/
import Derived.Test.YgcsalDivRounds
import Derived.Test.YgcsalOpen
namespace Go.Proofs.Ygcsal
open Go.ChangeShapes Go.WideShapes Go.ChangeAt Go.RowKit Go.Own

set_option maxRecDepth 100000 in
theorem divRounds_lifted (os : Os) (started : os.Started) (H : Type) (enc : TypeId × Value → H) :
    ReturnsInHanded {} Salg.checked os 7 .any (Rows.divRoundsSpec.pre6 enc Salg.prog Salg.f7 Rows.divRoundsRow.domain false) (Rows.divRoundsSpec.post enc Salg.prog Salg.f7 false true false false) := by
  refine returnsInHanded_of_change (C := Salg.checked) own started (by kernel_rfl) Salg.func7
    (ChangeSpec.witness6 (enc := enc) (C := Salg.checked) false ⟨#[], #[A8 (List.replicate 32 0), A8 (List.replicate 32 0)], []⟩ 8 (by kernel_rfl) (by kernel_rfl) (by kernel_rfl) (by kernel_rfl)) ?_
  intro W base args ds gs before hval0 hW hcnd _
  have hval : ∀ (j : Nat) t v, Salg.f7.params[j]? = some t → args[j]? = some v → Value.okWide Salg.prog W .any base t v := hval0
  have hW' := hW
  obtain ⟨p, q, hA0, hV, rfl, hfz, hnd⟩ := hW
  have hA : DataW.TrodAll enc Salg.prog W 0 (fun _ => true) true Salg.f7.params.toList args.toList ds p := hA0
  rw [Salg.params7] at hA hval
  obtain ⟨v0, vs0, d0, ds0, p0, q0, hargs, rfl, rfl, h0, r0⟩ := trodAll_cons hA
  obtain ⟨v1, vs1, d1, ds1, p1, q1, rfl, rfl, rfl, h1, r1⟩ := trodAll_cons r0
  obtain ⟨rfl, rfl, rfl⟩ := trodAll_nil r1
  obtain rfl : args = #[v0, v1] := by cases args; simp_all
  obtain ⟨rfl, rfl⟩ := trodVars_none hV
  obtain ⟨bs, rfl, hn, hb⟩ := open_arr8 Salg.underlying22 cells22 types22 Salg.underlying5 (hval 0 22 v0 rfl rfl)
  obtain ⟨cs, rfl, hm, hc⟩ := open_arr8 Salg.underlying22 cells22 types22 Salg.underlying5 (hval 1 22 v1 rfl rfl)
  have k0 := h0
  have lt0 : ∀ x ∈ p0, x.block < W.heap.size := by obtain ⟨m, hm⟩ := k0; exact DataW.trod_lt m _ _ _ hm
  have k1 := h1
  have lt1 : ∀ x ∈ p1, x.block < W.heap.size := by obtain ⟨m, hm⟩ := k1; exact DataW.trod_lt m _ _ _ hm
  clear hA0 hval0
  refine (divRounds_any bs cs W hn hm hb hc).mono fun e W' ⟨he, hk⟩ => ?_
  have bel := hk.below
  subst he
  exact ⟨_, rfl, _, _, _, [], _, [], hW', trodAll_mk1 (shut_bool Salg.underlying4 _), (trodAll_cons_mk (Below.trod laidOut (by kernel_rfl) (of_decide_eq_true (by kernel_rfl)) k0 bel lt0)
    (trodAll_cons_mk (Below.trod laidOut (by kernel_rfl) (of_decide_eq_true (by kernel_rfl)) k1 bel lt1) trodAll_mk0)), rfl, bel.frame _, fun h => by cases h⟩

theorem divRounds_proved : Rows.DivRoundsSaid :=
  OpenClaim.holds_of_wide 7 Salg.f7 rfl rfl rfl rfl rfl rfl rfl ⟨rfl, rfl, rfl, rfl, rfl⟩ rfl rfl rfl rfl rfl (by kernel_rfl) Salg.func7 (by kernel_rfl)
    (of_decide_eq_true (by kernel_rfl)) (by unfold Func.isWrapper; first | (rw [if_pos (by decide +kernel)]; kernel_rfl) | (rw [if_neg (by decide +kernel)]; exact ⟨rfl, rfl⟩))
    (fun os started H enc _ => divRounds_lifted os started H enc)
end Go.Proofs.Ygcsal

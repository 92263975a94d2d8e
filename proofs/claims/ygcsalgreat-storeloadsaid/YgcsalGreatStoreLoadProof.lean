/-
  THE STATEMENT 'Rows.StoreLoadSaid'.
-/
import Derived.Test.YgcsalGreatSl42
import Derived.Test.YgcsalGreatOpen
namespace Go.Proofs.YgcsalGreat
open Go.ChangeShapes Go.WideShapes Go.ChangeAt Go.RowKit Go.Own

set_option maxRecDepth 100000 in
theorem storeLoad_lifted (os : Os) (started : os.Started) (H : Type) (enc : TypeId × Value → H) :
    ReturnsInHanded {} Salg.checked os 7 .any (Rows.storeLoadSpec.pre6 enc Salg.prog Salg.f7 Rows.storeLoadRow.domain false) (Rows.storeLoadSpec.post enc Salg.prog Salg.f7 false true false false) := by
  refine returnsInHanded_of_change (C := Salg.checked) own started (by kernel_rfl) Salg.func7
    (ChangeSpec.witness6 (enc := enc) (C := Salg.checked) false ⟨#[], #[.int .u8 0, A8 (List.replicate 32 0), A8 (List.replicate 32 0), A8 (List.replicate 32 0)], []⟩ 8 (by kernel_rfl) (by kernel_rfl) (by kernel_rfl) (by kernel_rfl)) ?_
  intro W base args ds gs before hval0 hW hcnd _
  have hval : ∀ (j : Nat) t v, Salg.f7.params[j]? = some t → args[j]? = some v → Value.okWide Salg.prog W .any base t v := hval0
  have hW' := hW
  obtain ⟨p, q, hA0, hV, rfl, hfz, hnd⟩ := hW
  have hA : DataW.TrodAll enc Salg.prog W 0 (fun _ => true) true Salg.f7.params.toList args.toList ds p := hA0
  rw [Salg.params7] at hA hval
  obtain ⟨v0, vs0, d0, ds0, p0, q0, hargs, rfl, rfl, h0, r0⟩ := trodAll_cons hA
  obtain ⟨v1, vs1, d1, ds1, p1, q1, rfl, rfl, rfl, h1, r1⟩ := trodAll_cons r0
  obtain ⟨v2, vs2, d2, ds2, p2, q2, rfl, rfl, rfl, h2, r2⟩ := trodAll_cons r1
  obtain ⟨v3, vs3, d3, ds3, p3, q3, rfl, rfl, rfl, h3, r3⟩ := trodAll_cons r2
  obtain ⟨rfl, rfl, rfl⟩ := trodAll_nil r3
  obtain rfl : args = #[v0, v1, v2, v3] := by cases args; simp_all
  obtain ⟨rfl, rfl⟩ := trodVars_none hV
  obtain ⟨a0, rfl, rfl, rfl, w0⟩ := open_int Salg.underlying5 (hval 0 5 v0 rfl rfl) h0
  obtain ⟨k, rfl, hn1, hb1⟩ := open_arr8 Salg.underlying22 cells22 types22 Salg.underlying5 (hval 1 22 v1 rfl rfl)
  obtain ⟨x, rfl, hn2, hb2⟩ := open_arr8 Salg.underlying22 cells22 types22 Salg.underlying5 (hval 2 22 v2 rfl rfl)
  obtain ⟨y, rfl, hn3, hb3⟩ := open_arr8 Salg.underlying22 cells22 types22 Salg.underlying5 (hval 3 22 v3 rfl rfl)
  have k1 := h1
  have lt1 : ∀ x ∈ p1, x.block < W.heap.size := by obtain ⟨m, hm⟩ := k1; exact DataW.trod_lt m _ _ _ hm
  have k2 := h2
  have lt2 : ∀ x ∈ p2, x.block < W.heap.size := by obtain ⟨m, hm⟩ := k2; exact DataW.trod_lt m _ _ _ hm
  have k3 := h3
  have lt3 : ∀ x ∈ p3, x.block < W.heap.size := by obtain ⟨m, hm⟩ := k3; exact DataW.trod_lt m _ _ _ hm
  obtain ⟨e0, f0⟩ := bounds_u8 w0
  obtain ⟨kind, rfl⟩ := Int.eq_ofNat_of_zero_le e0
  clear hA0 hval0
  refine (storeLoad_any kind k x y W (by omega) hn1 hb1 hn2 hb2 hn3 hb3).mono fun e W' ⟨he, hk⟩ => ?_
  have bel := hk.below
  subst he
  exact ⟨_, rfl, _, _, _, [], _, [], hW', trodAll_mk1 (shut_bool Salg.underlying4 _), (trodAll_cons_mk (shut_int Salg.underlying5 w0)
    (trodAll_cons_mk (Below.trod laidOut (by kernel_rfl) (of_decide_eq_true (by kernel_rfl)) k1 bel lt1) (trodAll_cons_mk (Below.trod laidOut (by kernel_rfl) (of_decide_eq_true (by kernel_rfl)) k2 bel lt2) (trodAll_cons_mk (Below.trod laidOut (by kernel_rfl) (of_decide_eq_true (by kernel_rfl)) k3 bel lt3) trodAll_mk0)))), rfl, bel.frame _, fun h => by cases h⟩

theorem storeLoad_proved : Rows.StoreLoadSaid :=
  OpenClaim.holds_of_wide 7 Salg.f7 rfl rfl rfl rfl rfl rfl rfl ⟨rfl, rfl, rfl, rfl, rfl⟩ rfl rfl rfl rfl rfl (by kernel_rfl) Salg.func7 (by kernel_rfl)
    (of_decide_eq_true (by kernel_rfl)) (by unfold Func.isWrapper; first | (rw [if_pos (by decide +kernel)]; kernel_rfl) | (rw [if_neg (by decide +kernel)]; exact ⟨rfl, rfl⟩))
    (fun os started H enc _ => storeLoad_lifted os started H enc)
end Go.Proofs.YgcsalGreat

/-
  THE STATEMENT 'Rows.CopiesSaid'.
-/
import Derived.Test.YgcsalGreatCp53
import Derived.Test.YgcsalGreatCp54
import Derived.Test.YgcsalGreatOpen
namespace Go.Proofs.YgcsalGreat
open Go.ChangeShapes Go.WideShapes Go.ChangeAt Go.RowKit Go.Own

theorem copies_walk (kind dst src n : Nat) (a4 : Bool) (a5 : Option Addr) (len5 cap5 : Nat) (z5 : List Int) (w : World) (w5 : (a5 = none ∧ len5 = 0 ∧ cap5 = 0 ∧ z5 = []) ∨ ∃ x, a5 = some x ∧ len5 ≤ cap5 ∧ cap5 ≤ maxLen ∧ z5.length = cap5 ∧ (∀ i, i < z5.length → w.cell? (x.add i) = some (.int .u8 (z5.getD i 0))) ∧ ∀ n ∈ z5, (Lit.int .u8 n).wf = true) :
    Calls Salg.prog 5 #[.int .u8 (kind : Int), .int .u8 (dst : Int), .int .u8 (src : Int), .int .u8 (n : Int), .bool a4, .slice a5 len5 cap5] w fun e w' => e = .returned (.bool true) ∧ Kept [] w w' := by
  rcases w5 with ⟨rfl, rfl, rfl, rfl⟩ | ⟨x, rfl, hlc, hcm, hz, hcell, hwz⟩
  · exact copies_as_any kind dst src n a4 none 0 0 [] w (by decide) rfl ⟨(fun x hx => by cases hx), .inl ⟨rfl, none, 0, rfl, fun _ => rfl⟩⟩
  · rcases Nat.lt_or_ge 96 len5 with h | h
    · obtain ⟨dd, h1, h2⟩ := dat_of (C := 96) 96 (by omega) hcell (fun n hn => ⟨(bounds_u8 (hwz n hn)).1, Int.lt_of_le_of_lt (bounds_u8 (hwz n hn)).2 (by decide)⟩)
      exact copies_cut_any kind dst src n a4 (some x) len5 cap5 dd w h (by omega) h1 h2
    · obtain ⟨dd, h1, h2⟩ := dat_of (C := cap5) len5 (by omega) hcell (fun n hn => ⟨(bounds_u8 (hwz n hn)).1, Int.lt_of_le_of_lt (bounds_u8 (hwz n hn)).2 (by decide)⟩)
      exact copies_as_any kind dst src n a4 (some x) len5 cap5 dd w h h1 h2

set_option maxRecDepth 100000 in
theorem copies_lifted (os : Os) (started : os.Started) (H : Type) (enc : TypeId × Value → H) :
    ReturnsInHanded {} Salg.checked os 5 .any (Rows.copiesSpec.pre6 enc Salg.prog Salg.f5 Rows.copiesRow.domain false) (Rows.copiesSpec.post enc Salg.prog Salg.f5 false true false false) := by
  refine returnsInHanded_of_change (C := Salg.checked) own started (by kernel_rfl) Salg.func5
    (ChangeSpec.witness6 (enc := enc) (C := Salg.checked) false ⟨#[], #[.int .u8 0, .int .u8 0, .int .u8 0, .int .u8 0, .bool false, .slice none 0 0], []⟩ 8 (by kernel_rfl) (by kernel_rfl) (by kernel_rfl) (by kernel_rfl)) ?_
  intro W base args ds gs before hval0 hW hcnd _
  have hval : ∀ (j : Nat) t v, Salg.f5.params[j]? = some t → args[j]? = some v → Value.okWide Salg.prog W .any base t v := hval0
  have hW' := hW
  obtain ⟨p, q, hA0, hV, rfl, hfz, hnd⟩ := hW
  have hA : DataW.TrodAll enc Salg.prog W 0 (fun _ => true) true Salg.f5.params.toList args.toList ds p := hA0
  rw [Salg.params5] at hA hval
  obtain ⟨v0, vs0, d0, ds0, p0, q0, hargs, rfl, rfl, h0, r0⟩ := trodAll_cons hA
  obtain ⟨v1, vs1, d1, ds1, p1, q1, rfl, rfl, rfl, h1, r1⟩ := trodAll_cons r0
  obtain ⟨v2, vs2, d2, ds2, p2, q2, rfl, rfl, rfl, h2, r2⟩ := trodAll_cons r1
  obtain ⟨v3, vs3, d3, ds3, p3, q3, rfl, rfl, rfl, h3, r3⟩ := trodAll_cons r2
  obtain ⟨v4, vs4, d4, ds4, p4, q4, rfl, rfl, rfl, h4, r4⟩ := trodAll_cons r3
  obtain ⟨v5, vs5, d5, ds5, p5, q5, rfl, rfl, rfl, h5, r5⟩ := trodAll_cons r4
  obtain ⟨rfl, rfl, rfl⟩ := trodAll_nil r5
  obtain rfl : args = #[v0, v1, v2, v3, v4, v5] := by cases args; simp_all
  obtain ⟨rfl, rfl⟩ := trodVars_none hV
  obtain ⟨a0, rfl, rfl, rfl, w0⟩ := open_int Salg.underlying5 (hval 0 5 v0 rfl rfl) h0
  obtain ⟨a1, rfl, rfl, rfl, w1⟩ := open_int Salg.underlying5 (hval 1 5 v1 rfl rfl) h1
  obtain ⟨a2, rfl, rfl, rfl, w2⟩ := open_int Salg.underlying5 (hval 2 5 v2 rfl rfl) h2
  obtain ⟨a3, rfl, rfl, rfl, w3⟩ := open_int Salg.underlying5 (hval 3 5 v3 rfl rfl) h3
  obtain ⟨a4, rfl, rfl, rfl⟩ := open_bool Salg.underlying4 (hval 4 4 v4 rfl rfl) h4
  obtain ⟨a5, len5, cap5, rfl⟩ := okWide_slice Salg.underlying40 (hval 5 40 v5 rfl rfl)
  have k5 := h5
  have lt5 : ∀ x ∈ p5, x.block < W.heap.size := by obtain ⟨m, hm⟩ := k5; exact DataW.trod_lt m _ _ _ hm
  obtain ⟨z5, w5⟩ : ∃ z5 : List Int, (a5 = none ∧ len5 = 0 ∧ cap5 = 0 ∧ z5 = []) ∨ ∃ x, a5 = some x ∧ len5 ≤ cap5 ∧ cap5 ≤ maxLen ∧ z5.length = cap5 ∧ (∀ i, i < z5.length → W.cell? (x.add i) = some (.int .u8 (z5.getD i 0))) ∧ ∀ n ∈ z5, (Lit.int .u8 n).wf = true := by
    obtain ⟨fuel, hf⟩ := h5
    rcases open_ints Salg.underlying40 Salg.underlying5 (by kernel_rfl) hf with ⟨hcs, _⟩ | ⟨x, l, c, zs, hcs, _, hl, hm, hz, _, hcell, hwz⟩
    · simp [Value.cells] at hcs
      obtain ⟨rfl, rfl, rfl⟩ := hcs
      exact ⟨[], .inl ⟨rfl, rfl, rfl, rfl⟩⟩
    · simp [Value.cells] at hcs
      obtain ⟨rfl, rfl, rfl⟩ := hcs
      exact ⟨zs, .inr ⟨_, rfl, hl, hm, by simpa using hz, hcell, hwz⟩⟩
  obtain ⟨e0, f0⟩ := bounds_u8 w0
  obtain ⟨kind, rfl⟩ := Int.eq_ofNat_of_zero_le e0
  obtain ⟨e1, f1⟩ := bounds_u8 w1
  obtain ⟨dst, rfl⟩ := Int.eq_ofNat_of_zero_le e1
  obtain ⟨e2, f2⟩ := bounds_u8 w2
  obtain ⟨src, rfl⟩ := Int.eq_ofNat_of_zero_le e2
  obtain ⟨e3, f3⟩ := bounds_u8 w3
  obtain ⟨n, rfl⟩ := Int.eq_ofNat_of_zero_le e3
  clear hA0 hval0
  refine (copies_walk kind dst src n a4 a5 len5 cap5 z5 W w5).mono fun e W' ⟨he, hk⟩ => ?_
  have bel := hk.below
  subst he
  exact ⟨_, rfl, _, _, _, [], _, [], hW', trodAll_mk1 (shut_bool Salg.underlying4 _), (trodAll_cons_mk (shut_int Salg.underlying5 w0) (trodAll_cons_mk (shut_int Salg.underlying5 w1) (trodAll_cons_mk (shut_int Salg.underlying5 w2) (trodAll_cons_mk (shut_int Salg.underlying5 w3) (trodAll_cons_mk (shut_bool Salg.underlying4 _) (trodAll_cons_mk (Below.trod laidOut (by kernel_rfl) (of_decide_eq_true (by kernel_rfl)) k5 bel lt5) trodAll_mk0)))))), rfl, bel.frame _, fun h => by cases h⟩

theorem copies_proved : Rows.CopiesSaid :=
  OpenClaim.holds_of_wide 5 Salg.f5 rfl rfl rfl rfl rfl rfl rfl ⟨rfl, rfl, rfl, rfl, rfl⟩ rfl rfl rfl rfl rfl (by kernel_rfl) Salg.func5 (by kernel_rfl)
    (of_decide_eq_true (by kernel_rfl)) (by unfold Func.isWrapper; first | (rw [if_pos (by decide +kernel)]; kernel_rfl) | (rw [if_neg (by decide +kernel)]; exact ⟨rfl, rfl⟩))
    (fun os started H enc _ => copies_lifted os started H enc)
end Go.Proofs.YgcsalGreat

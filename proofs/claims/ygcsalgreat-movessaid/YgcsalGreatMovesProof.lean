/-
  THE STATEMENT 'Rows.MovesSaid'.
-/
import Derived.Test.YgcsalGreatMv42
import Derived.Test.YgcsalGreatOpen
namespace Go.Own
theorem open_arrN {P : Program} {w : World} {r : Reach} {base n m : Nat} {t e e' : TypeId} {v : Value} (hu : P.underlying t = some (.array m e')) (hc : P.cellsOf t = n) (hct : P.cellTypes P.depth t = some (List.replicate n e))
    (he : P.underlying e = some (.int .u8)) (h : Value.okWide P w r base t v) : ∃ bs : List Nat, v = A8 bs ∧ bs.length = n ∧ ∀ c ∈ bs, c < 256 := by
  simp only [Value.okWide, hu] at h
  obtain ⟨cs, rfl, hsz, ts, hts, hx, hrow⟩ := h
  clear hx
  rw [hct] at hts
  cases hts
  have hcell : ∀ i (hi : i < cs.size), ∃ m : Nat, m < 256 ∧ cs[i] = .int .u8 (m : Int) := by
    intro i hi
    obtain ⟨u, hu', hok⟩ := hrow i cs[i] (Array.getElem?_eq_getElem hi)
    have hue : u = e := by
      rw [List.getElem?_replicate] at hu'
      split at hu'
      · simpa using hu'.symm
      · cases hu'
    subst hue
    simp only [Cell.okWide, he, Cell.ok] at hok
    generalize cs[i] = x at hok
    cases x with
    | int k z =>
      simp only at hok
      obtain ⟨rfl, hz⟩ := hok
      simp [IntKind.has, IntKind.min, IntKind.max, IntKind.signed, IntKind.bits] at hz
      exact ⟨z.toNat, by omega, by congr; omega⟩
    | _ => simp at hok
  refine ⟨cs.toList.map (fun | .int _ m => m.toNat | _ => 0), ?_, by simp [hsz, hc], ?_⟩
  · congr 1
    apply Array.ext_getElem?
    intro i
    by_cases hi : i < cs.size
    · obtain ⟨m, hm, hv⟩ := hcell i hi
      simp [hi, hv]
    · rw [Array.getElem?_eq_none (by omega), Array.getElem?_eq_none (by simp; omega)]
  · intro c hcm
    simp only [List.mem_map] at hcm
    obtain ⟨x, hx, rfl⟩ := hcm
    obtain ⟨i, hi, rfl⟩ := List.getElem_of_mem hx
    obtain ⟨m, hm, hv⟩ := hcell i (by simpa using hi)
    simp only [Array.length_toList] at hi
    simp [hv, hm]
end Go.Own
namespace Go.Proofs.YgcsalGreat
open Go.ChangeShapes Go.WideShapes Go.ChangeAt Go.RowKit Go.Own
theorem cells34 : Salg.prog.cellsOf 34 = 136 := by kernel_rfl
theorem types34 : Salg.prog.cellTypes Salg.prog.depth 34 = some (List.replicate 136 5) := by kernel_rfl

set_option maxRecDepth 100000 in
theorem moves_lifted (os : Os) (started : os.Started) (H : Type) (enc : TypeId × Value → H) :
    ReturnsInHanded {} Salg.checked os 4 .any (Rows.movesSpec.pre6 enc Salg.prog Salg.f4 Rows.movesRow.domain false) (Rows.movesSpec.post enc Salg.prog Salg.f4 false true false false) := by
  refine returnsInHanded_of_change (C := Salg.checked) own started (by kernel_rfl) Salg.func4
    (ChangeSpec.witness6 (enc := enc) (C := Salg.checked) false ⟨#[], #[.int .u8 0, .int .u8 0, .int .u8 0, A8 (List.replicate 136 0), A8 (List.replicate 32 0)], []⟩ 8 (by kernel_rfl) (by kernel_rfl) (by kernel_rfl) (by kernel_rfl)) ?_
  intro W base args ds gs before hval0 hW hcnd _
  have hval : ∀ (j : Nat) t v, Salg.f4.params[j]? = some t → args[j]? = some v → Value.okWide Salg.prog W .any base t v := hval0
  have hW' := hW
  obtain ⟨p, q, hA0, hV, rfl, hfz, hnd⟩ := hW
  have hA : DataW.TrodAll enc Salg.prog W 0 (fun _ => true) true Salg.f4.params.toList args.toList ds p := hA0
  rw [Salg.params4] at hA hval
  obtain ⟨v0, vs0, d0, ds0, p0, q0, hargs, rfl, rfl, h0, r0⟩ := trodAll_cons hA
  obtain ⟨v1, vs1, d1, ds1, p1, q1, rfl, rfl, rfl, h1, r1⟩ := trodAll_cons r0
  obtain ⟨v2, vs2, d2, ds2, p2, q2, rfl, rfl, rfl, h2, r2⟩ := trodAll_cons r1
  obtain ⟨v3, vs3, d3, ds3, p3, q3, rfl, rfl, rfl, h3, r3⟩ := trodAll_cons r2
  obtain ⟨v4, vs4, d4, ds4, p4, q4, rfl, rfl, rfl, h4, r4⟩ := trodAll_cons r3
  obtain ⟨rfl, rfl, rfl⟩ := trodAll_nil r4
  obtain rfl : args = #[v0, v1, v2, v3, v4] := by cases args; simp_all
  obtain ⟨rfl, rfl⟩ := trodVars_none hV
  obtain ⟨a0, rfl, rfl, rfl, w0⟩ := open_int Salg.underlying5 (hval 0 5 v0 rfl rfl) h0
  obtain ⟨a1, rfl, rfl, rfl, w1⟩ := open_int Salg.underlying5 (hval 1 5 v1 rfl rfl) h1
  obtain ⟨a2, rfl, rfl, rfl, w2⟩ := open_int Salg.underlying5 (hval 2 5 v2 rfl rfl) h2
  obtain ⟨fl, rfl, hn, hb⟩ := open_arrN Salg.underlying34 cells34 types34 Salg.underlying5 (hval 3 34 v3 rfl rfl)
  obtain ⟨im, rfl, hm, hc⟩ := open_arr8 Salg.underlying22 cells22 types22 Salg.underlying5 (hval 4 22 v4 rfl rfl)
  have k3 := h3
  have lt3 : ∀ x ∈ p3, x.block < W.heap.size := by obtain ⟨m, hm⟩ := k3; exact DataW.trod_lt m _ _ _ hm
  have k4 := h4
  have lt4 : ∀ x ∈ p4, x.block < W.heap.size := by obtain ⟨m, hm⟩ := k4; exact DataW.trod_lt m _ _ _ hm
  obtain ⟨e0, f0⟩ := bounds_u8 w0
  obtain ⟨e1, f1⟩ := bounds_u8 w1
  obtain ⟨e2, f2⟩ := bounds_u8 w2
  obtain ⟨kind, rfl⟩ := Int.eq_ofNat_of_zero_le e0
  obtain ⟨n, rfl⟩ := Int.eq_ofNat_of_zero_le e1
  obtain ⟨cut, rfl⟩ := Int.eq_ofNat_of_zero_le e2
  clear hA0 hval0
  refine (moves_any kind n cut fl im W (by omega) (by omega) (by omega) hn hb hm hc).mono fun e W' ⟨he, hk⟩ => ?_
  have bel := hk.below
  subst he
  exact ⟨_, rfl, _, _, _, [], _, [], hW', trodAll_mk1 (shut_bool Salg.underlying4 _), (trodAll_cons_mk (shut_int Salg.underlying5 w0)
    (trodAll_cons_mk (shut_int Salg.underlying5 w1) (trodAll_cons_mk (shut_int Salg.underlying5 w2)
    (trodAll_cons_mk (Below.trod laidOut (by kernel_rfl) (of_decide_eq_true (by kernel_rfl)) k3 bel lt3) (trodAll_cons_mk (Below.trod laidOut (by kernel_rfl) (of_decide_eq_true (by kernel_rfl)) k4 bel lt4) trodAll_mk0))))), rfl, bel.frame _, fun h => by cases h⟩

theorem moves_proved : Rows.MovesSaid :=
  OpenClaim.holds_of_wide 4 Salg.f4 rfl rfl rfl rfl rfl rfl rfl ⟨rfl, rfl, rfl, rfl, rfl⟩ rfl rfl rfl rfl rfl (by kernel_rfl) Salg.func4 (by kernel_rfl)
    (of_decide_eq_true (by kernel_rfl)) (by unfold Func.isWrapper; first | (rw [if_pos (by decide +kernel)]; kernel_rfl) | (rw [if_neg (by decide +kernel)]; exact ⟨rfl, rfl⟩))
    (fun os started H enc _ => moves_lifted os started H enc)
end Go.Proofs.YgcsalGreat

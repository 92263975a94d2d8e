/-
  u256.divide, all cases; the walks of DivRem and Rem512.
-/
import Derived.Test.YgcsalGreatDivLong
set_option linter.unusedSimpArgs false
namespace Go.Own
/-- A path as a list. -/
def pathL (X V : Nat) : List Nat := [(pathN X V).1, (pathN X V).2.1, (pathN X V).2.2]
theorem nl_zero (k : Nat) : nl k 0 = List.replicate k 0 := by
  induction k with
  | zero => rfl
  | succ k ih => simp only [nl, Nat.zero_mod, Nat.zero_div, ih, List.replicate_succ]
end Go.Own
namespace Go.Proofs.YgcsalGreat
open Go.RowKit Go.Own

theorem divide_any (bx tx : Nat) (xs vs : List Nat) (w : World) (hr : w.heap[bx]? = some (R64 tx xs)) (hx : xs.length = 8) (hv : vs.length = 4) (hL : Limbs xs) (hLv : Limbs vs) :
    Calls Salg.prog 201 #[.pointer (some ⟨bx, 0, none⟩), A64 vs] w fun e w' =>
      e = .returned (.tuple #[A64 (nl 4 (remN (lval xs) (lval vs))), A8 (pathL (lval xs) (lval vs))]) ∧ Kept [bx] w w' ∧ w'.heap[bx]? = some (R64 tx (nl 8 (lval xs / lval vs))) := by
  have hn := tl_nlb hLv hv
  have ht := tl_nlb hL hx
  have hXl := lval_lt hL
  rw [hx] at hXl
  have hVl := lval_lt hLv
  rw [hv] at hVl
  have hn4 := nlb_le hVl
  have ht8 := nlb_le hXl
  by_cases hV : lval vs = 0
  · have e1 : remN (lval xs) (lval vs) = 0 := by simp [remN, hV]
    have e2 : pathL (lval xs) (lval vs) = List.replicate 3 0 := by simp [pathL, pathN, hV, nlb_zero]
    rw [e1, e2, hV, Nat.div_zero, nl_zero, nl_zero]
    rw [hV, nlb_zero] at hn
    exact divide_zero bx tx xs vs w hr hx hv hn
  · have hnp := nlb_pos hV
    have e1 : remN (lval xs) (lval vs) = lval xs % lval vs := by simp [remN, hV]
    rw [e1]
    rcases Nat.lt_or_ge (nlb (lval xs)) (nlb (lval vs)) with hlt | hge
    · have hXV : lval xs < lval vs := by
        refine Nat.lt_of_lt_of_le (nlb_lt _) (Nat.le_trans (Nat.pow_le_pow_right (by decide) (by omega)) (nlb_ge hV))
      have e2 : pathL (lval xs) (lval vs) = List.replicate 3 0 := by simp [pathL, pathN, hlt]
      rw [e2, Nat.div_eq_of_lt hXV, Nat.mod_eq_of_lt hXV, nl_zero]
      have hX4 : lval xs < 18446744073709551616 ^ 4 := Nat.lt_trans hXV hVl
      have h4 := lval_split (xs := xs) (k := 4) (by omega)
      have h5 : lval (xs.drop 4) = 0 := by
        rcases Nat.eq_zero_or_pos (lval (xs.drop 4)) with h | h
        · exact h
        · have : 18446744073709551616 ^ 4 * 1 ≤ 18446744073709551616 ^ 4 * lval (xs.drop 4) := Nat.mul_le_mul_left _ h
          omega
      rw [h5, Nat.mul_zero, Nat.add_zero] at h4
      have e3 : xs.take 4 = nl 4 (lval xs) := eq_nl (hL.take 4) (by simp [hx]) h4.symm
      rw [← e3]
      exact divide_less bx tx _ xs vs w hr hx hv hn hnp hn4 (by omega)
    · have hle : ¬ (nlb (lval vs) = 0 ∨ nlb (lval xs) < nlb (lval vs)) := by omega
      by_cases h1 : nlb (lval vs) = 1
      · have e2 : pathL (lval xs) (lval vs) = [nlb (lval xs), 0, 0] := by
          simp only [pathL, pathN]; rw [if_neg hle, if_pos h1, h1]; simp; omega
        have hv0 : lval vs = vs.getD 0 0 := by
          have h3 := lval_split (xs := vs) (k := 1) (by omega)
          have h4 : lval (vs.drop 1) = 0 := by
            have h5 : lval vs < 18446744073709551616 ^ 1 := by rw [← h1]; exact nlb_lt _
            rcases Nat.eq_zero_or_pos (lval (vs.drop 1)) with h | h
            · exact h
            · have : 18446744073709551616 ^ 1 * 1 ≤ 18446744073709551616 ^ 1 * lval (vs.drop 1) := Nat.mul_le_mul_left _ h
              omega
          have h6 := lval_take_succ (show 0 < vs.length by omega)
          rw [getD_get (by omega)]
          rw [h4, h6] at h3
          simpa [lval] using h3
        have hyl : vs.getD 0 0 < 18446744073709551616 := by rw [getD_get (by omega)]; exact hLv.get _
        have hz : lval (xs.drop (nlb (lval xs))) = 0 := by
          have h3 := lval_split (xs := xs) (k := nlb (lval xs)) (by omega)
          have h5 := nlb_lt (lval xs)
          rcases Nat.eq_zero_or_pos (lval (xs.drop (nlb (lval xs)))) with h | h
          · exact h
          · have : 18446744073709551616 ^ nlb (lval xs) * 1 ≤ 18446744073709551616 ^ nlb (lval xs) * lval (xs.drop (nlb (lval xs))) := Nat.mul_le_mul_left _ h
            omega
        have hr4 : nl 4 (lval xs % lval vs) = [lval xs % lval vs, 0, 0, 0] := by
          have hm := Nat.mod_lt (lval xs) (show 0 < lval vs by omega)
          have hm2 : lval xs % lval vs < 18446744073709551616 := by rw [hv0] at hm ⊢; omega
          generalize lval xs % lval vs = r at *
          simp only [nl, Nat.mod_eq_of_lt hm2, Nat.div_eq_of_lt hm2, Nat.zero_mod, Nat.zero_div]
        rw [e2, hr4, hv0]
        exact divide_one bx tx _ _ xs vs w hr hx hv hL (by rw [hn]; exact h1) ht (by omega) ht8 hz (by rw [getD_get (by omega)]; exact List.getElem?_eq_getElem _) (by rw [← hv0]; omega) hyl
      · have h2 : 2 ≤ nlb (lval vs) := by omega
        obtain ⟨N, hzv, hs⟩ := nrm_of h2 hn4
        obtain ⟨G, huv⟩ := good_of hXl h2 hn4 hge
        obtain ⟨_, hb1, hb2⟩ := blen_top hLv hv rfl hnp
        have htl : vs.getD (nlb (lval vs) - 1) 0 < 18446744073709551616 := by rw [getD_get (by omega)]; exact hLv.get _
        have e2 : pathL (lval xs) (lval vs) = [nlb (lval xs) - nlb (lval vs) + 1, (runs (nl 4 (lval vs * 2 ^ (64 * nlb (lval vs) - blen (lval vs)))) (nlb (lval vs)) (nlb (lval xs) - nlb (lval vs) + 1) (nl 9 (lval xs * 2 ^ (64 * nlb (lval vs) - blen (lval vs))))).1,
            (runs (nl 4 (lval vs * 2 ^ (64 * nlb (lval vs) - blen (lval vs)))) (nlb (lval vs)) (nlb (lval xs) - nlb (lval vs) + 1) (nl 9 (lval xs * 2 ^ (64 * nlb (lval vs) - blen (lval vs))))).2] := by
          simp only [pathL, pathN]; rw [if_neg hle, if_neg h1]
        rw [e2]
        exact divide_long bx tx _ _ _ _ xs vs _ _ w hr hx hv hL hLv hn h2 hn4 ht hge ht8 (by rw [getD_get (by omega)]; exact List.getElem?_eq_getElem _) htl hb2 hs N G rfl rfl hzv huv hV
-- DIVREM
theorem nl4_take (X : Nat) : (nl 8 X).take 4 = nl 4 X := rfl

set_option maxHeartbeats 4000000 in
set_option maxRecDepth 100000 in
theorem divRem_any (ys vs : List Nat) (w : World) (ha : ys.length = 4) (hv : vs.length = 4) (hLa : Limbs ys) (hLv : Limbs vs) :
    Calls Salg.prog 131 #[A64 ys, A64 vs] w fun e w' =>
      e = .returned (.tuple #[A64 (nl 4 (lval ys / lval vs)), A64 (nl 4 (remN (lval ys) (lval vs))), A8 (pathL (lval ys) (lval vs))]) ∧ Kept [] w w' := by
  have M := Mem.start w []
  have HDV : Hid (∀ (b : Nat) (w : World), w.heap[b]? = some (R64 183 (ys ++ [0, 0, 0, 0])) → Calls Salg.prog 201 #[.pointer (some ⟨b, 0, none⟩), A64 vs] w fun e w' =>
      e = .returned (.tuple #[A64 (nl 4 (remN (lval ys) (lval vs))), A8 (pathL (lval ys) (lval vs))]) ∧ Kept [b] w w' ∧ w'.heap[b]? = some (R64 183 (nl 8 (lval ys / lval vs)))) := fun b w h => by
    have h1 := divide_any b 183 (ys ++ [0, 0, 0, 0]) vs w h (by simp [ha]) hv (by intro x hx; rcases List.mem_append.1 hx with h | h; exact hLa x h; simp at h; omega) hLv
    rw [show lval (ys ++ [0, 0, 0, 0]) = lval ys from by rw [lval_append]; simp [lval]] at h1
    exact h1
  obtain ⟨q4, hq4⟩ : ∃ x, x = nl 4 (lval ys / lval vs) := ⟨_, rfl⟩
  obtain ⟨q8, hq8⟩ : ∃ x, x = nl 8 (lval ys / lval vs) := ⟨_, rfl⟩
  obtain ⟨r4, hr4⟩ : ∃ x, x = nl 4 (remN (lval ys) (lval vs)) := ⟨_, rfl⟩
  obtain ⟨p3, hp3⟩ : ∃ x, x = pathL (lval ys) (lval vs) := ⟨_, rfl⟩
  rw [← hq8, ← hr4, ← hp3] at HDV
  rw [← hq4, ← hr4, ← hp3]
  have h8 : q8.length = 8 := by rw [hq8]; exact nl_length 8 _
  have h4 : q4.length = 4 := by rw [hq4]; exact nl_length 4 _
  have h4r : r4.length = 4 := by rw [hr4]; exact nl_length 4 _
  have h3 : p3.length = 3 := by rw [hp3]; rfl
  have h84 : q8.take 4 = q4 := by rw [hq8, hq4]; rfl
  clear hq4 hq8 hr4 hp3
  have HLD : Hid (∀ (a : Act) (w : World) (x : Operand) (b : Nat) (pos : String) (after : Array Edge) (g : Option (Nat × Bool)), w.heap[b]? = some (R64 183 q8) → a.eval x = .pointer (some ⟨b, 0, none⟩) →
      (execOp a.eval { dst := some 24, op := .load 25 x, type := 25, pos := pos, after := after, guard := g }).run Salg.prog w = .ok (.value (A64 q4)) w) := fun a w x b pos after g h hx => by
    rw [Go.Own.run_load h hx Salg.underlying25 rfl size25 (by simp [h8]), show (4 : Nat) = 0 + 4 from rfl, extract_map, List.drop_zero, h84]
  clear hLa hLv
  obtain ⟨a0, a1, a2, a3, rfl⟩ : ∃ a0 a1 a2 a3, ys = [a0, a1, a2, a3] := by
    match ys, ha with
    | [a0, a1, a2, a3], _ => exact ⟨a0, a1, a2, a3, rfl⟩
  go_enter Salg.func131, Salg.ntmps131
  go_wp2_with (first
    | ((with_reducible apply L_box (d := 2) M); rfl; clear M; intro b1 w1 hb1 M; simp only [Act.put, List.setIfInBounds_toArray, List.set_cons_zero, List.set_cons_succ])
    | ((with_reducible apply L_box (d := 3) M); rfl; clear M; intro b2 w1 hb2 M; simp only [Act.put, List.setIfInBounds_toArray, List.set_cons_zero, List.set_cons_succ])
    | ((with_reducible apply L_allocA (d := 4) M); exact zero25; clear M; intro b3 w1 hb3 M; simp only [Act.put, List.setIfInBounds_toArray, List.set_cons_zero, List.set_cons_succ])
    | ((with_reducible apply L_allocA (d := 5) M); exact zero25; clear M; intro b4 w1 hb4 M; simp only [Act.put, List.setIfInBounds_toArray, List.set_cons_zero, List.set_cons_succ])
    | ((with_reducible apply L_allocA M); exact zero178; clear M; intro b5 w1 hb5 M; simp only [Act.put, List.setIfInBounds_toArray, List.set_cons_zero, List.set_cons_succ])
    | ((with_reducible apply L_allocA M); exact zero183; clear M; intro b6 w1 hb6 M; simp only [Act.put, List.setIfInBounds_toArray, List.set_cons_zero, List.set_cons_succ])
    | ((with_reducible apply W_loadAll); rfl; (first | with_reducible exact M.r0 | with_reducible exact M.r1 | with_reducible exact M.r2 | with_reducible exact M.r3 | with_reducible exact M.r4 | with_reducible exact M.r5 | with_reducible exact M.r6 | assumption | exact M.kept.row (by assumption) (by simp)); exact Salg.underlying25; rfl; (first | with_reducible exact size25 | (rw [size25]; simp [hv])); simp only [Act.put, List.setIfInBounds_toArray, List.set_cons_zero, List.set_cons_succ])
    | ((with_reducible apply W_loadCell); rfl; (first | with_reducible exact M.r0 | with_reducible exact M.r1 | with_reducible exact M.r2 | with_reducible exact M.r3 | with_reducible exact M.r4 | with_reducible exact M.r5 | with_reducible exact M.r6 | assumption | exact M.kept.row (by assumption) (by simp)); (first | exact get_map (by assumption) | exact get_map rfl | rfl); exact Salg.underlying23; rfl; simp only [Act.put, List.setIfInBounds_toArray, List.set_cons_zero, List.set_cons_succ])
    | ((with_reducible apply W_storeK (b := b6) (vs := (([a0, a1, a2, a3, 0, 0, 0, 0] : List Nat).map n64).toArray)); rfl; rfl; exact M.r0; exact size183; rfl; exact one64 _; intro w3 K hr3; replace M := Mem.callPut (L1 := []) M (Or.inr (by assumption)) K hr3; clear K hr3; simp only [List.cons_append, List.nil_append] at M))
  refine (HDV.out b6 _ M.r0).mono ?_
  rintro e w4 ⟨rfl, K, hr3⟩
  replace M := Mem.callPut (L1 := []) M (Or.inr (by assumption)) K hr3
  simp only [List.cons_append, List.nil_append] at M
  clear K hr3 HDV
  go_wp2_with (first
    | ((with_reducible apply W_storeK (b := b4)); rfl; rfl; exact M.r2; exact size25; (simp [h4r]); exact one64 _; intro w3 K hr3; replace M := Mem.callPut (L1 := [_, _]) M (Or.inr (by assumption)) K hr3; clear K hr3; simp only [List.cons_append, List.nil_append] at M)
    | ((with_reducible apply W_storeK (b := b5)); rfl; rfl; exact M.r1; exact size178; (simp [h3]); exact one8 _; intro w3 K hr3; replace M := Mem.callPut (L1 := [_]) M (Or.inr (by assumption)) K hr3; clear K hr3; simp only [List.cons_append, List.nil_append] at M))
  refine S_region (by kernel_rfl) ?_
  replace M := M.drew
  refine S_pick3 0 3 4 (by kernel_rfl) ?_ ?_ ?_
  · refine S_val (v := .slice (some ⟨b6, 0, none⟩) 4 8) rfl rfl (Go.Own.run_sliceArr (l := 0) (h := 4) (m := 8) rfl Salg.underlying183 size23 (by (first | exact Or.inl ⟨rfl, rfl⟩ | exact Or.inr ⟨_, _, _, rfl, rfl, by omega⟩)) (by (first | exact Or.inl ⟨rfl, rfl⟩ | exact Or.inr ⟨_, _, _, rfl, rfl, by omega⟩)) (by (first | exact Or.inl ⟨rfl, rfl⟩ | exact Or.inr ⟨_, _, _, rfl, rfl, by omega⟩)) (by first | exact Or.inl rfl | exact Or.inr rfl) (by omega) (by omega) (by omega) (by omega)) ?_
    simp only [Act.put, List.setIfInBounds_toArray, List.set_cons_zero, List.set_cons_succ]
    refine S_pick3 1 3 4 (by kernel_rfl) ?_ ?_ ?_
    · refine S_val rfl rfl (Go.Own.run_arrayAt rfl Salg.underlying25 (by decide)) ?_
      simp only [Act.put, List.setIfInBounds_toArray, List.set_cons_zero, List.set_cons_succ]
      refine S_pick3 2 3 4 (by kernel_rfl) ?_ ?_ ?_
      · refine S_val (v := A64 q4) rfl rfl (HLD.out _ _ _ _ _ _ _ M.r0 rfl) ?_
        simp only [Act.put, List.setIfInBounds_toArray, List.set_cons_zero, List.set_cons_succ]
        refine S_pick3 3 4 5 (by kernel_rfl) ?_ ?_ ?_
        · refine S_val (v := A64 r4) rfl rfl (Go.Own.run_loadAll M.r2 rfl Salg.underlying25 rfl (by rw [size25]; simp [h4r])) ?_
          simp only [Act.put, List.setIfInBounds_toArray, List.set_cons_zero, List.set_cons_succ]
          refine S_pick2 4 5 (by kernel_rfl) ?_ ?_
          · refine S_val (v := A8 p3) rfl rfl (Go.Own.run_loadAll M.r1 rfl Salg.underlying178 rfl (by rw [size178]; simp [h3])) ?_
            simp only [Act.put, List.setIfInBounds_toArray, List.set_cons_zero, List.set_cons_succ]
            refine S_pick1 5 (by kernel_rfl) ?_
            refine S_sto rfl rfl (Go.Own.run_storeAll (vs := (q4.map n64).toArray) M.r3 rfl rfl size25 (by simp [h4]) (one64 _)) ?_
            replace M := Mem.put (L1 := [_, _, _]) M (Or.inr hb3) (R64 25 q4)
            simp only [List.cons_append, List.nil_append] at M
            simp only [Act.put, List.setIfInBounds_toArray, List.set_cons_zero, List.set_cons_succ]
            refine S_pick1 6 (by kernel_rfl) ?_
            refine S_sto rfl rfl (Go.Own.run_storeAll (vs := (r4.map n64).toArray) M.r2 rfl rfl (by rw [size25]; simp [h4r]) rfl (one64 _)) ?_
            rw [putRow_same M.r2]
            simp only [Act.put, List.setIfInBounds_toArray, List.set_cons_zero, List.set_cons_succ]
            refine S_pick1 7 (by kernel_rfl) ?_
            refine S_sto rfl rfl (Go.Own.run_storeAll (vs := (p3.map n8).toArray) M.r1 rfl rfl (by rw [size178]; simp [h3]) rfl (one8 _)) ?_
            rw [putRow_same M.r1]
            simp only [Act.put, List.setIfInBounds_toArray, List.set_cons_zero, List.set_cons_succ]
            refine S_end (by kernel_rfl) ?_
            go_wp2_with fail
            exact ret_cell3 Salg.results131 rfl M.r3 Salg.underlying25 rfl (by rw [size25]; simp [h4]) rfl M.r2 Salg.underlying25 rfl (by rw [size25]; simp [h4r]) rfl M.r1 Salg.underlying178 rfl (by rw [size178]; simp [h3]) rfl ⟨rfl, M.kept⟩
          · refine S_sto rfl rfl (Go.Own.run_storeAll (vs := (q4.map n64).toArray) M.r3 rfl rfl size25 (by simp [h4]) (one64 _)) ?_
            replace M := Mem.put (L1 := [_, _, _]) M (Or.inr hb3) (R64 25 q4)
            simp only [List.cons_append, List.nil_append] at M
            simp only [Act.put, List.setIfInBounds_toArray, List.set_cons_zero, List.set_cons_succ]
            refine S_pick2 4 6 (by kernel_rfl) ?_ ?_
            · refine S_val (v := A8 p3) rfl rfl (Go.Own.run_loadAll M.r1 rfl Salg.underlying178 rfl (by rw [size178]; simp [h3])) ?_
              simp only [Act.put, List.setIfInBounds_toArray, List.set_cons_zero, List.set_cons_succ]
              refine S_pick1 6 (by kernel_rfl) ?_
              refine S_sto rfl rfl (Go.Own.run_storeAll (vs := (r4.map n64).toArray) M.r2 rfl rfl (by rw [size25]; simp [h4r]) rfl (one64 _)) ?_
              rw [putRow_same M.r2]
              simp only [Act.put, List.setIfInBounds_toArray, List.set_cons_zero, List.set_cons_succ]
              refine S_pick1 7 (by kernel_rfl) ?_
              refine S_sto rfl rfl (Go.Own.run_storeAll (vs := (p3.map n8).toArray) M.r1 rfl rfl (by rw [size178]; simp [h3]) rfl (one8 _)) ?_
              rw [putRow_same M.r1]
              simp only [Act.put, List.setIfInBounds_toArray, List.set_cons_zero, List.set_cons_succ]
              refine S_end (by kernel_rfl) ?_
              go_wp2_with fail
              exact ret_cell3 Salg.results131 rfl M.r3 Salg.underlying25 rfl (by rw [size25]; simp [h4]) rfl M.r2 Salg.underlying25 rfl (by rw [size25]; simp [h4r]) rfl M.r1 Salg.underlying178 rfl (by rw [size178]; simp [h3]) rfl ⟨rfl, M.kept⟩
            · refine S_sto rfl rfl (Go.Own.run_storeAll (vs := (r4.map n64).toArray) M.r2 rfl rfl (by rw [size25]; simp [h4r]) rfl (one64 _)) ?_
              rw [putRow_same M.r2]
              simp only [Act.put, List.setIfInBounds_toArray, List.set_cons_zero, List.set_cons_succ]
              refine S_pick1 4 (by kernel_rfl) ?_
              refine S_val (v := A8 p3) rfl rfl (Go.Own.run_loadAll M.r1 rfl Salg.underlying178 rfl (by rw [size178]; simp [h3])) ?_
              simp only [Act.put, List.setIfInBounds_toArray, List.set_cons_zero, List.set_cons_succ]
              refine S_pick1 7 (by kernel_rfl) ?_
              refine S_sto rfl rfl (Go.Own.run_storeAll (vs := (p3.map n8).toArray) M.r1 rfl rfl (by rw [size178]; simp [h3]) rfl (one8 _)) ?_
              rw [putRow_same M.r1]
              simp only [Act.put, List.setIfInBounds_toArray, List.set_cons_zero, List.set_cons_succ]
              refine S_end (by kernel_rfl) ?_
              go_wp2_with fail
              exact ret_cell3 Salg.results131 rfl M.r3 Salg.underlying25 rfl (by rw [size25]; simp [h4]) rfl M.r2 Salg.underlying25 rfl (by rw [size25]; simp [h4r]) rfl M.r1 Salg.underlying178 rfl (by rw [size178]; simp [h3]) rfl ⟨rfl, M.kept⟩
        · refine S_val (v := A8 p3) rfl rfl (Go.Own.run_loadAll M.r1 rfl Salg.underlying178 rfl (by rw [size178]; simp [h3])) ?_
          simp only [Act.put, List.setIfInBounds_toArray, List.set_cons_zero, List.set_cons_succ]
          refine S_pick2 3 5 (by kernel_rfl) ?_ ?_
          · refine S_val (v := A64 r4) rfl rfl (Go.Own.run_loadAll M.r2 rfl Salg.underlying25 rfl (by rw [size25]; simp [h4r])) ?_
            simp only [Act.put, List.setIfInBounds_toArray, List.set_cons_zero, List.set_cons_succ]
            refine S_pick1 5 (by kernel_rfl) ?_
            refine S_sto rfl rfl (Go.Own.run_storeAll (vs := (q4.map n64).toArray) M.r3 rfl rfl size25 (by simp [h4]) (one64 _)) ?_
            replace M := Mem.put (L1 := [_, _, _]) M (Or.inr hb3) (R64 25 q4)
            simp only [List.cons_append, List.nil_append] at M
            simp only [Act.put, List.setIfInBounds_toArray, List.set_cons_zero, List.set_cons_succ]
            refine S_pick1 6 (by kernel_rfl) ?_
            refine S_sto rfl rfl (Go.Own.run_storeAll (vs := (r4.map n64).toArray) M.r2 rfl rfl (by rw [size25]; simp [h4r]) rfl (one64 _)) ?_
            rw [putRow_same M.r2]
            simp only [Act.put, List.setIfInBounds_toArray, List.set_cons_zero, List.set_cons_succ]
            refine S_pick1 7 (by kernel_rfl) ?_
            refine S_sto rfl rfl (Go.Own.run_storeAll (vs := (p3.map n8).toArray) M.r1 rfl rfl (by rw [size178]; simp [h3]) rfl (one8 _)) ?_
            rw [putRow_same M.r1]
            simp only [Act.put, List.setIfInBounds_toArray, List.set_cons_zero, List.set_cons_succ]
            refine S_end (by kernel_rfl) ?_
            go_wp2_with fail
            exact ret_cell3 Salg.results131 rfl M.r3 Salg.underlying25 rfl (by rw [size25]; simp [h4]) rfl M.r2 Salg.underlying25 rfl (by rw [size25]; simp [h4r]) rfl M.r1 Salg.underlying178 rfl (by rw [size178]; simp [h3]) rfl ⟨rfl, M.kept⟩
          · refine S_sto rfl rfl (Go.Own.run_storeAll (vs := (q4.map n64).toArray) M.r3 rfl rfl size25 (by simp [h4]) (one64 _)) ?_
            replace M := Mem.put (L1 := [_, _, _]) M (Or.inr hb3) (R64 25 q4)
            simp only [List.cons_append, List.nil_append] at M
            simp only [Act.put, List.setIfInBounds_toArray, List.set_cons_zero, List.set_cons_succ]
            refine S_pick1 3 (by kernel_rfl) ?_
            refine S_val (v := A64 r4) rfl rfl (Go.Own.run_loadAll M.r2 rfl Salg.underlying25 rfl (by rw [size25]; simp [h4r])) ?_
            simp only [Act.put, List.setIfInBounds_toArray, List.set_cons_zero, List.set_cons_succ]
            refine S_pick1 6 (by kernel_rfl) ?_
            refine S_sto rfl rfl (Go.Own.run_storeAll (vs := (r4.map n64).toArray) M.r2 rfl rfl (by rw [size25]; simp [h4r]) rfl (one64 _)) ?_
            rw [putRow_same M.r2]
            simp only [Act.put, List.setIfInBounds_toArray, List.set_cons_zero, List.set_cons_succ]
            refine S_pick1 7 (by kernel_rfl) ?_
            refine S_sto rfl rfl (Go.Own.run_storeAll (vs := (p3.map n8).toArray) M.r1 rfl rfl (by rw [size178]; simp [h3]) rfl (one8 _)) ?_
            rw [putRow_same M.r1]
            simp only [Act.put, List.setIfInBounds_toArray, List.set_cons_zero, List.set_cons_succ]
            refine S_end (by kernel_rfl) ?_
            go_wp2_with fail
            exact ret_cell3 Salg.results131 rfl M.r3 Salg.underlying25 rfl (by rw [size25]; simp [h4]) rfl M.r2 Salg.underlying25 rfl (by rw [size25]; simp [h4r]) rfl M.r1 Salg.underlying178 rfl (by rw [size178]; simp [h3]) rfl ⟨rfl, M.kept⟩
        · refine S_sto rfl rfl (Go.Own.run_storeAll (vs := (q4.map n64).toArray) M.r3 rfl rfl size25 (by simp [h4]) (one64 _)) ?_
          replace M := Mem.put (L1 := [_, _, _]) M (Or.inr hb3) (R64 25 q4)
          simp only [List.cons_append, List.nil_append] at M
          simp only [Act.put, List.setIfInBounds_toArray, List.set_cons_zero, List.set_cons_succ]
          refine S_pick2 3 4 (by kernel_rfl) ?_ ?_
          · refine S_val (v := A64 r4) rfl rfl (Go.Own.run_loadAll M.r2 rfl Salg.underlying25 rfl (by rw [size25]; simp [h4r])) ?_
            simp only [Act.put, List.setIfInBounds_toArray, List.set_cons_zero, List.set_cons_succ]
            refine S_pick2 4 6 (by kernel_rfl) ?_ ?_
            · refine S_val (v := A8 p3) rfl rfl (Go.Own.run_loadAll M.r1 rfl Salg.underlying178 rfl (by rw [size178]; simp [h3])) ?_
              simp only [Act.put, List.setIfInBounds_toArray, List.set_cons_zero, List.set_cons_succ]
              refine S_pick1 6 (by kernel_rfl) ?_
              refine S_sto rfl rfl (Go.Own.run_storeAll (vs := (r4.map n64).toArray) M.r2 rfl rfl (by rw [size25]; simp [h4r]) rfl (one64 _)) ?_
              rw [putRow_same M.r2]
              simp only [Act.put, List.setIfInBounds_toArray, List.set_cons_zero, List.set_cons_succ]
              refine S_pick1 7 (by kernel_rfl) ?_
              refine S_sto rfl rfl (Go.Own.run_storeAll (vs := (p3.map n8).toArray) M.r1 rfl rfl (by rw [size178]; simp [h3]) rfl (one8 _)) ?_
              rw [putRow_same M.r1]
              simp only [Act.put, List.setIfInBounds_toArray, List.set_cons_zero, List.set_cons_succ]
              refine S_end (by kernel_rfl) ?_
              go_wp2_with fail
              exact ret_cell3 Salg.results131 rfl M.r3 Salg.underlying25 rfl (by rw [size25]; simp [h4]) rfl M.r2 Salg.underlying25 rfl (by rw [size25]; simp [h4r]) rfl M.r1 Salg.underlying178 rfl (by rw [size178]; simp [h3]) rfl ⟨rfl, M.kept⟩
            · refine S_sto rfl rfl (Go.Own.run_storeAll (vs := (r4.map n64).toArray) M.r2 rfl rfl (by rw [size25]; simp [h4r]) rfl (one64 _)) ?_
              rw [putRow_same M.r2]
              simp only [Act.put, List.setIfInBounds_toArray, List.set_cons_zero, List.set_cons_succ]
              refine S_pick1 4 (by kernel_rfl) ?_
              refine S_val (v := A8 p3) rfl rfl (Go.Own.run_loadAll M.r1 rfl Salg.underlying178 rfl (by rw [size178]; simp [h3])) ?_
              simp only [Act.put, List.setIfInBounds_toArray, List.set_cons_zero, List.set_cons_succ]
              refine S_pick1 7 (by kernel_rfl) ?_
              refine S_sto rfl rfl (Go.Own.run_storeAll (vs := (p3.map n8).toArray) M.r1 rfl rfl (by rw [size178]; simp [h3]) rfl (one8 _)) ?_
              rw [putRow_same M.r1]
              simp only [Act.put, List.setIfInBounds_toArray, List.set_cons_zero, List.set_cons_succ]
              refine S_end (by kernel_rfl) ?_
              go_wp2_with fail
              exact ret_cell3 Salg.results131 rfl M.r3 Salg.underlying25 rfl (by rw [size25]; simp [h4]) rfl M.r2 Salg.underlying25 rfl (by rw [size25]; simp [h4r]) rfl M.r1 Salg.underlying178 rfl (by rw [size178]; simp [h3]) rfl ⟨rfl, M.kept⟩
          · refine S_val (v := A8 p3) rfl rfl (Go.Own.run_loadAll M.r1 rfl Salg.underlying178 rfl (by rw [size178]; simp [h3])) ?_
            simp only [Act.put, List.setIfInBounds_toArray, List.set_cons_zero, List.set_cons_succ]
            refine S_pick1 3 (by kernel_rfl) ?_
            refine S_val (v := A64 r4) rfl rfl (Go.Own.run_loadAll M.r2 rfl Salg.underlying25 rfl (by rw [size25]; simp [h4r])) ?_
            simp only [Act.put, List.setIfInBounds_toArray, List.set_cons_zero, List.set_cons_succ]
            refine S_pick1 6 (by kernel_rfl) ?_
            refine S_sto rfl rfl (Go.Own.run_storeAll (vs := (r4.map n64).toArray) M.r2 rfl rfl (by rw [size25]; simp [h4r]) rfl (one64 _)) ?_
            rw [putRow_same M.r2]
            simp only [Act.put, List.setIfInBounds_toArray, List.set_cons_zero, List.set_cons_succ]
            refine S_pick1 7 (by kernel_rfl) ?_
            refine S_sto rfl rfl (Go.Own.run_storeAll (vs := (p3.map n8).toArray) M.r1 rfl rfl (by rw [size178]; simp [h3]) rfl (one8 _)) ?_
            rw [putRow_same M.r1]
            simp only [Act.put, List.setIfInBounds_toArray, List.set_cons_zero, List.set_cons_succ]
            refine S_end (by kernel_rfl) ?_
            go_wp2_with fail
            exact ret_cell3 Salg.results131 rfl M.r3 Salg.underlying25 rfl (by rw [size25]; simp [h4]) rfl M.r2 Salg.underlying25 rfl (by rw [size25]; simp [h4r]) rfl M.r1 Salg.underlying178 rfl (by rw [size178]; simp [h3]) rfl ⟨rfl, M.kept⟩
      · refine S_val (v := A64 r4) rfl rfl (Go.Own.run_loadAll M.r2 rfl Salg.underlying25 rfl (by rw [size25]; simp [h4r])) ?_
        simp only [Act.put, List.setIfInBounds_toArray, List.set_cons_zero, List.set_cons_succ]
        refine S_pick2 2 4 (by kernel_rfl) ?_ ?_
        · refine S_val (v := A64 q4) rfl rfl (HLD.out _ _ _ _ _ _ _ M.r0 rfl) ?_
          simp only [Act.put, List.setIfInBounds_toArray, List.set_cons_zero, List.set_cons_succ]
          refine S_pick2 4 5 (by kernel_rfl) ?_ ?_
          · refine S_val (v := A8 p3) rfl rfl (Go.Own.run_loadAll M.r1 rfl Salg.underlying178 rfl (by rw [size178]; simp [h3])) ?_
            simp only [Act.put, List.setIfInBounds_toArray, List.set_cons_zero, List.set_cons_succ]
            refine S_pick1 5 (by kernel_rfl) ?_
            refine S_sto rfl rfl (Go.Own.run_storeAll (vs := (q4.map n64).toArray) M.r3 rfl rfl size25 (by simp [h4]) (one64 _)) ?_
            replace M := Mem.put (L1 := [_, _, _]) M (Or.inr hb3) (R64 25 q4)
            simp only [List.cons_append, List.nil_append] at M
            simp only [Act.put, List.setIfInBounds_toArray, List.set_cons_zero, List.set_cons_succ]
            refine S_pick1 6 (by kernel_rfl) ?_
            refine S_sto rfl rfl (Go.Own.run_storeAll (vs := (r4.map n64).toArray) M.r2 rfl rfl (by rw [size25]; simp [h4r]) rfl (one64 _)) ?_
            rw [putRow_same M.r2]
            simp only [Act.put, List.setIfInBounds_toArray, List.set_cons_zero, List.set_cons_succ]
            refine S_pick1 7 (by kernel_rfl) ?_
            refine S_sto rfl rfl (Go.Own.run_storeAll (vs := (p3.map n8).toArray) M.r1 rfl rfl (by rw [size178]; simp [h3]) rfl (one8 _)) ?_
            rw [putRow_same M.r1]
            simp only [Act.put, List.setIfInBounds_toArray, List.set_cons_zero, List.set_cons_succ]
            refine S_end (by kernel_rfl) ?_
            go_wp2_with fail
            exact ret_cell3 Salg.results131 rfl M.r3 Salg.underlying25 rfl (by rw [size25]; simp [h4]) rfl M.r2 Salg.underlying25 rfl (by rw [size25]; simp [h4r]) rfl M.r1 Salg.underlying178 rfl (by rw [size178]; simp [h3]) rfl ⟨rfl, M.kept⟩
          · refine S_sto rfl rfl (Go.Own.run_storeAll (vs := (q4.map n64).toArray) M.r3 rfl rfl size25 (by simp [h4]) (one64 _)) ?_
            replace M := Mem.put (L1 := [_, _, _]) M (Or.inr hb3) (R64 25 q4)
            simp only [List.cons_append, List.nil_append] at M
            simp only [Act.put, List.setIfInBounds_toArray, List.set_cons_zero, List.set_cons_succ]
            refine S_pick2 4 6 (by kernel_rfl) ?_ ?_
            · refine S_val (v := A8 p3) rfl rfl (Go.Own.run_loadAll M.r1 rfl Salg.underlying178 rfl (by rw [size178]; simp [h3])) ?_
              simp only [Act.put, List.setIfInBounds_toArray, List.set_cons_zero, List.set_cons_succ]
              refine S_pick1 6 (by kernel_rfl) ?_
              refine S_sto rfl rfl (Go.Own.run_storeAll (vs := (r4.map n64).toArray) M.r2 rfl rfl (by rw [size25]; simp [h4r]) rfl (one64 _)) ?_
              rw [putRow_same M.r2]
              simp only [Act.put, List.setIfInBounds_toArray, List.set_cons_zero, List.set_cons_succ]
              refine S_pick1 7 (by kernel_rfl) ?_
              refine S_sto rfl rfl (Go.Own.run_storeAll (vs := (p3.map n8).toArray) M.r1 rfl rfl (by rw [size178]; simp [h3]) rfl (one8 _)) ?_
              rw [putRow_same M.r1]
              simp only [Act.put, List.setIfInBounds_toArray, List.set_cons_zero, List.set_cons_succ]
              refine S_end (by kernel_rfl) ?_
              go_wp2_with fail
              exact ret_cell3 Salg.results131 rfl M.r3 Salg.underlying25 rfl (by rw [size25]; simp [h4]) rfl M.r2 Salg.underlying25 rfl (by rw [size25]; simp [h4r]) rfl M.r1 Salg.underlying178 rfl (by rw [size178]; simp [h3]) rfl ⟨rfl, M.kept⟩
            · refine S_sto rfl rfl (Go.Own.run_storeAll (vs := (r4.map n64).toArray) M.r2 rfl rfl (by rw [size25]; simp [h4r]) rfl (one64 _)) ?_
              rw [putRow_same M.r2]
              simp only [Act.put, List.setIfInBounds_toArray, List.set_cons_zero, List.set_cons_succ]
              refine S_pick1 4 (by kernel_rfl) ?_
              refine S_val (v := A8 p3) rfl rfl (Go.Own.run_loadAll M.r1 rfl Salg.underlying178 rfl (by rw [size178]; simp [h3])) ?_
              simp only [Act.put, List.setIfInBounds_toArray, List.set_cons_zero, List.set_cons_succ]
              refine S_pick1 7 (by kernel_rfl) ?_
              refine S_sto rfl rfl (Go.Own.run_storeAll (vs := (p3.map n8).toArray) M.r1 rfl rfl (by rw [size178]; simp [h3]) rfl (one8 _)) ?_
              rw [putRow_same M.r1]
              simp only [Act.put, List.setIfInBounds_toArray, List.set_cons_zero, List.set_cons_succ]
              refine S_end (by kernel_rfl) ?_
              go_wp2_with fail
              exact ret_cell3 Salg.results131 rfl M.r3 Salg.underlying25 rfl (by rw [size25]; simp [h4]) rfl M.r2 Salg.underlying25 rfl (by rw [size25]; simp [h4r]) rfl M.r1 Salg.underlying178 rfl (by rw [size178]; simp [h3]) rfl ⟨rfl, M.kept⟩
        · refine S_val (v := A8 p3) rfl rfl (Go.Own.run_loadAll M.r1 rfl Salg.underlying178 rfl (by rw [size178]; simp [h3])) ?_
          simp only [Act.put, List.setIfInBounds_toArray, List.set_cons_zero, List.set_cons_succ]
          refine S_pick1 2 (by kernel_rfl) ?_
          refine S_val (v := A64 q4) rfl rfl (HLD.out _ _ _ _ _ _ _ M.r0 rfl) ?_
          simp only [Act.put, List.setIfInBounds_toArray, List.set_cons_zero, List.set_cons_succ]
          refine S_pick1 5 (by kernel_rfl) ?_
          refine S_sto rfl rfl (Go.Own.run_storeAll (vs := (q4.map n64).toArray) M.r3 rfl rfl size25 (by simp [h4]) (one64 _)) ?_
          replace M := Mem.put (L1 := [_, _, _]) M (Or.inr hb3) (R64 25 q4)
          simp only [List.cons_append, List.nil_append] at M
          simp only [Act.put, List.setIfInBounds_toArray, List.set_cons_zero, List.set_cons_succ]
          refine S_pick1 6 (by kernel_rfl) ?_
          refine S_sto rfl rfl (Go.Own.run_storeAll (vs := (r4.map n64).toArray) M.r2 rfl rfl (by rw [size25]; simp [h4r]) rfl (one64 _)) ?_
          rw [putRow_same M.r2]
          simp only [Act.put, List.setIfInBounds_toArray, List.set_cons_zero, List.set_cons_succ]
          refine S_pick1 7 (by kernel_rfl) ?_
          refine S_sto rfl rfl (Go.Own.run_storeAll (vs := (p3.map n8).toArray) M.r1 rfl rfl (by rw [size178]; simp [h3]) rfl (one8 _)) ?_
          rw [putRow_same M.r1]
          simp only [Act.put, List.setIfInBounds_toArray, List.set_cons_zero, List.set_cons_succ]
          refine S_end (by kernel_rfl) ?_
          go_wp2_with fail
          exact ret_cell3 Salg.results131 rfl M.r3 Salg.underlying25 rfl (by rw [size25]; simp [h4]) rfl M.r2 Salg.underlying25 rfl (by rw [size25]; simp [h4r]) rfl M.r1 Salg.underlying178 rfl (by rw [size178]; simp [h3]) rfl ⟨rfl, M.kept⟩
      · refine S_val (v := A8 p3) rfl rfl (Go.Own.run_loadAll M.r1 rfl Salg.underlying178 rfl (by rw [size178]; simp [h3])) ?_
        simp only [Act.put, List.setIfInBounds_toArray, List.set_cons_zero, List.set_cons_succ]
        refine S_pick2 2 3 (by kernel_rfl) ?_ ?_
        · refine S_val (v := A64 q4) rfl rfl (HLD.out _ _ _ _ _ _ _ M.r0 rfl) ?_
          simp only [Act.put, List.setIfInBounds_toArray, List.set_cons_zero, List.set_cons_succ]
          refine S_pick2 3 5 (by kernel_rfl) ?_ ?_
          · refine S_val (v := A64 r4) rfl rfl (Go.Own.run_loadAll M.r2 rfl Salg.underlying25 rfl (by rw [size25]; simp [h4r])) ?_
            simp only [Act.put, List.setIfInBounds_toArray, List.set_cons_zero, List.set_cons_succ]
            refine S_pick1 5 (by kernel_rfl) ?_
            refine S_sto rfl rfl (Go.Own.run_storeAll (vs := (q4.map n64).toArray) M.r3 rfl rfl size25 (by simp [h4]) (one64 _)) ?_
            replace M := Mem.put (L1 := [_, _, _]) M (Or.inr hb3) (R64 25 q4)
            simp only [List.cons_append, List.nil_append] at M
            simp only [Act.put, List.setIfInBounds_toArray, List.set_cons_zero, List.set_cons_succ]
            refine S_pick1 6 (by kernel_rfl) ?_
            refine S_sto rfl rfl (Go.Own.run_storeAll (vs := (r4.map n64).toArray) M.r2 rfl rfl (by rw [size25]; simp [h4r]) rfl (one64 _)) ?_
            rw [putRow_same M.r2]
            simp only [Act.put, List.setIfInBounds_toArray, List.set_cons_zero, List.set_cons_succ]
            refine S_pick1 7 (by kernel_rfl) ?_
            refine S_sto rfl rfl (Go.Own.run_storeAll (vs := (p3.map n8).toArray) M.r1 rfl rfl (by rw [size178]; simp [h3]) rfl (one8 _)) ?_
            rw [putRow_same M.r1]
            simp only [Act.put, List.setIfInBounds_toArray, List.set_cons_zero, List.set_cons_succ]
            refine S_end (by kernel_rfl) ?_
            go_wp2_with fail
            exact ret_cell3 Salg.results131 rfl M.r3 Salg.underlying25 rfl (by rw [size25]; simp [h4]) rfl M.r2 Salg.underlying25 rfl (by rw [size25]; simp [h4r]) rfl M.r1 Salg.underlying178 rfl (by rw [size178]; simp [h3]) rfl ⟨rfl, M.kept⟩
          · refine S_sto rfl rfl (Go.Own.run_storeAll (vs := (q4.map n64).toArray) M.r3 rfl rfl size25 (by simp [h4]) (one64 _)) ?_
            replace M := Mem.put (L1 := [_, _, _]) M (Or.inr hb3) (R64 25 q4)
            simp only [List.cons_append, List.nil_append] at M
            simp only [Act.put, List.setIfInBounds_toArray, List.set_cons_zero, List.set_cons_succ]
            refine S_pick1 3 (by kernel_rfl) ?_
            refine S_val (v := A64 r4) rfl rfl (Go.Own.run_loadAll M.r2 rfl Salg.underlying25 rfl (by rw [size25]; simp [h4r])) ?_
            simp only [Act.put, List.setIfInBounds_toArray, List.set_cons_zero, List.set_cons_succ]
            refine S_pick1 6 (by kernel_rfl) ?_
            refine S_sto rfl rfl (Go.Own.run_storeAll (vs := (r4.map n64).toArray) M.r2 rfl rfl (by rw [size25]; simp [h4r]) rfl (one64 _)) ?_
            rw [putRow_same M.r2]
            simp only [Act.put, List.setIfInBounds_toArray, List.set_cons_zero, List.set_cons_succ]
            refine S_pick1 7 (by kernel_rfl) ?_
            refine S_sto rfl rfl (Go.Own.run_storeAll (vs := (p3.map n8).toArray) M.r1 rfl rfl (by rw [size178]; simp [h3]) rfl (one8 _)) ?_
            rw [putRow_same M.r1]
            simp only [Act.put, List.setIfInBounds_toArray, List.set_cons_zero, List.set_cons_succ]
            refine S_end (by kernel_rfl) ?_
            go_wp2_with fail
            exact ret_cell3 Salg.results131 rfl M.r3 Salg.underlying25 rfl (by rw [size25]; simp [h4]) rfl M.r2 Salg.underlying25 rfl (by rw [size25]; simp [h4r]) rfl M.r1 Salg.underlying178 rfl (by rw [size178]; simp [h3]) rfl ⟨rfl, M.kept⟩
        · refine S_val (v := A64 r4) rfl rfl (Go.Own.run_loadAll M.r2 rfl Salg.underlying25 rfl (by rw [size25]; simp [h4r])) ?_
          simp only [Act.put, List.setIfInBounds_toArray, List.set_cons_zero, List.set_cons_succ]
          refine S_pick1 2 (by kernel_rfl) ?_
          refine S_val (v := A64 q4) rfl rfl (HLD.out _ _ _ _ _ _ _ M.r0 rfl) ?_
          simp only [Act.put, List.setIfInBounds_toArray, List.set_cons_zero, List.set_cons_succ]
          refine S_pick1 5 (by kernel_rfl) ?_
          refine S_sto rfl rfl (Go.Own.run_storeAll (vs := (q4.map n64).toArray) M.r3 rfl rfl size25 (by simp [h4]) (one64 _)) ?_
          replace M := Mem.put (L1 := [_, _, _]) M (Or.inr hb3) (R64 25 q4)
          simp only [List.cons_append, List.nil_append] at M
          simp only [Act.put, List.setIfInBounds_toArray, List.set_cons_zero, List.set_cons_succ]
          refine S_pick1 6 (by kernel_rfl) ?_
          refine S_sto rfl rfl (Go.Own.run_storeAll (vs := (r4.map n64).toArray) M.r2 rfl rfl (by rw [size25]; simp [h4r]) rfl (one64 _)) ?_
          rw [putRow_same M.r2]
          simp only [Act.put, List.setIfInBounds_toArray, List.set_cons_zero, List.set_cons_succ]
          refine S_pick1 7 (by kernel_rfl) ?_
          refine S_sto rfl rfl (Go.Own.run_storeAll (vs := (p3.map n8).toArray) M.r1 rfl rfl (by rw [size178]; simp [h3]) rfl (one8 _)) ?_
          rw [putRow_same M.r1]
          simp only [Act.put, List.setIfInBounds_toArray, List.set_cons_zero, List.set_cons_succ]
          refine S_end (by kernel_rfl) ?_
          go_wp2_with fail
          exact ret_cell3 Salg.results131 rfl M.r3 Salg.underlying25 rfl (by rw [size25]; simp [h4]) rfl M.r2 Salg.underlying25 rfl (by rw [size25]; simp [h4r]) rfl M.r1 Salg.underlying178 rfl (by rw [size178]; simp [h3]) rfl ⟨rfl, M.kept⟩
    · refine S_val (v := A64 r4) rfl rfl (Go.Own.run_loadAll M.r2 rfl Salg.underlying25 rfl (by rw [size25]; simp [h4r])) ?_
      simp only [Act.put, List.setIfInBounds_toArray, List.set_cons_zero, List.set_cons_succ]
      refine S_pick2 1 4 (by kernel_rfl) ?_ ?_
      · refine S_val rfl rfl (Go.Own.run_arrayAt rfl Salg.underlying25 (by decide)) ?_
        simp only [Act.put, List.setIfInBounds_toArray, List.set_cons_zero, List.set_cons_succ]
        refine S_pick2 2 4 (by kernel_rfl) ?_ ?_
        · refine S_val (v := A64 q4) rfl rfl (HLD.out _ _ _ _ _ _ _ M.r0 rfl) ?_
          simp only [Act.put, List.setIfInBounds_toArray, List.set_cons_zero, List.set_cons_succ]
          refine S_pick2 4 5 (by kernel_rfl) ?_ ?_
          · refine S_val (v := A8 p3) rfl rfl (Go.Own.run_loadAll M.r1 rfl Salg.underlying178 rfl (by rw [size178]; simp [h3])) ?_
            simp only [Act.put, List.setIfInBounds_toArray, List.set_cons_zero, List.set_cons_succ]
            refine S_pick1 5 (by kernel_rfl) ?_
            refine S_sto rfl rfl (Go.Own.run_storeAll (vs := (q4.map n64).toArray) M.r3 rfl rfl size25 (by simp [h4]) (one64 _)) ?_
            replace M := Mem.put (L1 := [_, _, _]) M (Or.inr hb3) (R64 25 q4)
            simp only [List.cons_append, List.nil_append] at M
            simp only [Act.put, List.setIfInBounds_toArray, List.set_cons_zero, List.set_cons_succ]
            refine S_pick1 6 (by kernel_rfl) ?_
            refine S_sto rfl rfl (Go.Own.run_storeAll (vs := (r4.map n64).toArray) M.r2 rfl rfl (by rw [size25]; simp [h4r]) rfl (one64 _)) ?_
            rw [putRow_same M.r2]
            simp only [Act.put, List.setIfInBounds_toArray, List.set_cons_zero, List.set_cons_succ]
            refine S_pick1 7 (by kernel_rfl) ?_
            refine S_sto rfl rfl (Go.Own.run_storeAll (vs := (p3.map n8).toArray) M.r1 rfl rfl (by rw [size178]; simp [h3]) rfl (one8 _)) ?_
            rw [putRow_same M.r1]
            simp only [Act.put, List.setIfInBounds_toArray, List.set_cons_zero, List.set_cons_succ]
            refine S_end (by kernel_rfl) ?_
            go_wp2_with fail
            exact ret_cell3 Salg.results131 rfl M.r3 Salg.underlying25 rfl (by rw [size25]; simp [h4]) rfl M.r2 Salg.underlying25 rfl (by rw [size25]; simp [h4r]) rfl M.r1 Salg.underlying178 rfl (by rw [size178]; simp [h3]) rfl ⟨rfl, M.kept⟩
          · refine S_sto rfl rfl (Go.Own.run_storeAll (vs := (q4.map n64).toArray) M.r3 rfl rfl size25 (by simp [h4]) (one64 _)) ?_
            replace M := Mem.put (L1 := [_, _, _]) M (Or.inr hb3) (R64 25 q4)
            simp only [List.cons_append, List.nil_append] at M
            simp only [Act.put, List.setIfInBounds_toArray, List.set_cons_zero, List.set_cons_succ]
            refine S_pick2 4 6 (by kernel_rfl) ?_ ?_
            · refine S_val (v := A8 p3) rfl rfl (Go.Own.run_loadAll M.r1 rfl Salg.underlying178 rfl (by rw [size178]; simp [h3])) ?_
              simp only [Act.put, List.setIfInBounds_toArray, List.set_cons_zero, List.set_cons_succ]
              refine S_pick1 6 (by kernel_rfl) ?_
              refine S_sto rfl rfl (Go.Own.run_storeAll (vs := (r4.map n64).toArray) M.r2 rfl rfl (by rw [size25]; simp [h4r]) rfl (one64 _)) ?_
              rw [putRow_same M.r2]
              simp only [Act.put, List.setIfInBounds_toArray, List.set_cons_zero, List.set_cons_succ]
              refine S_pick1 7 (by kernel_rfl) ?_
              refine S_sto rfl rfl (Go.Own.run_storeAll (vs := (p3.map n8).toArray) M.r1 rfl rfl (by rw [size178]; simp [h3]) rfl (one8 _)) ?_
              rw [putRow_same M.r1]
              simp only [Act.put, List.setIfInBounds_toArray, List.set_cons_zero, List.set_cons_succ]
              refine S_end (by kernel_rfl) ?_
              go_wp2_with fail
              exact ret_cell3 Salg.results131 rfl M.r3 Salg.underlying25 rfl (by rw [size25]; simp [h4]) rfl M.r2 Salg.underlying25 rfl (by rw [size25]; simp [h4r]) rfl M.r1 Salg.underlying178 rfl (by rw [size178]; simp [h3]) rfl ⟨rfl, M.kept⟩
            · refine S_sto rfl rfl (Go.Own.run_storeAll (vs := (r4.map n64).toArray) M.r2 rfl rfl (by rw [size25]; simp [h4r]) rfl (one64 _)) ?_
              rw [putRow_same M.r2]
              simp only [Act.put, List.setIfInBounds_toArray, List.set_cons_zero, List.set_cons_succ]
              refine S_pick1 4 (by kernel_rfl) ?_
              refine S_val (v := A8 p3) rfl rfl (Go.Own.run_loadAll M.r1 rfl Salg.underlying178 rfl (by rw [size178]; simp [h3])) ?_
              simp only [Act.put, List.setIfInBounds_toArray, List.set_cons_zero, List.set_cons_succ]
              refine S_pick1 7 (by kernel_rfl) ?_
              refine S_sto rfl rfl (Go.Own.run_storeAll (vs := (p3.map n8).toArray) M.r1 rfl rfl (by rw [size178]; simp [h3]) rfl (one8 _)) ?_
              rw [putRow_same M.r1]
              simp only [Act.put, List.setIfInBounds_toArray, List.set_cons_zero, List.set_cons_succ]
              refine S_end (by kernel_rfl) ?_
              go_wp2_with fail
              exact ret_cell3 Salg.results131 rfl M.r3 Salg.underlying25 rfl (by rw [size25]; simp [h4]) rfl M.r2 Salg.underlying25 rfl (by rw [size25]; simp [h4r]) rfl M.r1 Salg.underlying178 rfl (by rw [size178]; simp [h3]) rfl ⟨rfl, M.kept⟩
        · refine S_val (v := A8 p3) rfl rfl (Go.Own.run_loadAll M.r1 rfl Salg.underlying178 rfl (by rw [size178]; simp [h3])) ?_
          simp only [Act.put, List.setIfInBounds_toArray, List.set_cons_zero, List.set_cons_succ]
          refine S_pick1 2 (by kernel_rfl) ?_
          refine S_val (v := A64 q4) rfl rfl (HLD.out _ _ _ _ _ _ _ M.r0 rfl) ?_
          simp only [Act.put, List.setIfInBounds_toArray, List.set_cons_zero, List.set_cons_succ]
          refine S_pick1 5 (by kernel_rfl) ?_
          refine S_sto rfl rfl (Go.Own.run_storeAll (vs := (q4.map n64).toArray) M.r3 rfl rfl size25 (by simp [h4]) (one64 _)) ?_
          replace M := Mem.put (L1 := [_, _, _]) M (Or.inr hb3) (R64 25 q4)
          simp only [List.cons_append, List.nil_append] at M
          simp only [Act.put, List.setIfInBounds_toArray, List.set_cons_zero, List.set_cons_succ]
          refine S_pick1 6 (by kernel_rfl) ?_
          refine S_sto rfl rfl (Go.Own.run_storeAll (vs := (r4.map n64).toArray) M.r2 rfl rfl (by rw [size25]; simp [h4r]) rfl (one64 _)) ?_
          rw [putRow_same M.r2]
          simp only [Act.put, List.setIfInBounds_toArray, List.set_cons_zero, List.set_cons_succ]
          refine S_pick1 7 (by kernel_rfl) ?_
          refine S_sto rfl rfl (Go.Own.run_storeAll (vs := (p3.map n8).toArray) M.r1 rfl rfl (by rw [size178]; simp [h3]) rfl (one8 _)) ?_
          rw [putRow_same M.r1]
          simp only [Act.put, List.setIfInBounds_toArray, List.set_cons_zero, List.set_cons_succ]
          refine S_end (by kernel_rfl) ?_
          go_wp2_with fail
          exact ret_cell3 Salg.results131 rfl M.r3 Salg.underlying25 rfl (by rw [size25]; simp [h4]) rfl M.r2 Salg.underlying25 rfl (by rw [size25]; simp [h4r]) rfl M.r1 Salg.underlying178 rfl (by rw [size178]; simp [h3]) rfl ⟨rfl, M.kept⟩
      · refine S_val (v := A8 p3) rfl rfl (Go.Own.run_loadAll M.r1 rfl Salg.underlying178 rfl (by rw [size178]; simp [h3])) ?_
        simp only [Act.put, List.setIfInBounds_toArray, List.set_cons_zero, List.set_cons_succ]
        refine S_pick1 1 (by kernel_rfl) ?_
        refine S_val rfl rfl (Go.Own.run_arrayAt rfl Salg.underlying25 (by decide)) ?_
        simp only [Act.put, List.setIfInBounds_toArray, List.set_cons_zero, List.set_cons_succ]
        refine S_pick1 2 (by kernel_rfl) ?_
        refine S_val (v := A64 q4) rfl rfl (HLD.out _ _ _ _ _ _ _ M.r0 rfl) ?_
        simp only [Act.put, List.setIfInBounds_toArray, List.set_cons_zero, List.set_cons_succ]
        refine S_pick1 5 (by kernel_rfl) ?_
        refine S_sto rfl rfl (Go.Own.run_storeAll (vs := (q4.map n64).toArray) M.r3 rfl rfl size25 (by simp [h4]) (one64 _)) ?_
        replace M := Mem.put (L1 := [_, _, _]) M (Or.inr hb3) (R64 25 q4)
        simp only [List.cons_append, List.nil_append] at M
        simp only [Act.put, List.setIfInBounds_toArray, List.set_cons_zero, List.set_cons_succ]
        refine S_pick1 6 (by kernel_rfl) ?_
        refine S_sto rfl rfl (Go.Own.run_storeAll (vs := (r4.map n64).toArray) M.r2 rfl rfl (by rw [size25]; simp [h4r]) rfl (one64 _)) ?_
        rw [putRow_same M.r2]
        simp only [Act.put, List.setIfInBounds_toArray, List.set_cons_zero, List.set_cons_succ]
        refine S_pick1 7 (by kernel_rfl) ?_
        refine S_sto rfl rfl (Go.Own.run_storeAll (vs := (p3.map n8).toArray) M.r1 rfl rfl (by rw [size178]; simp [h3]) rfl (one8 _)) ?_
        rw [putRow_same M.r1]
        simp only [Act.put, List.setIfInBounds_toArray, List.set_cons_zero, List.set_cons_succ]
        refine S_end (by kernel_rfl) ?_
        go_wp2_with fail
        exact ret_cell3 Salg.results131 rfl M.r3 Salg.underlying25 rfl (by rw [size25]; simp [h4]) rfl M.r2 Salg.underlying25 rfl (by rw [size25]; simp [h4r]) rfl M.r1 Salg.underlying178 rfl (by rw [size178]; simp [h3]) rfl ⟨rfl, M.kept⟩
    · refine S_val (v := A8 p3) rfl rfl (Go.Own.run_loadAll M.r1 rfl Salg.underlying178 rfl (by rw [size178]; simp [h3])) ?_
      simp only [Act.put, List.setIfInBounds_toArray, List.set_cons_zero, List.set_cons_succ]
      refine S_pick2 1 3 (by kernel_rfl) ?_ ?_
      · refine S_val rfl rfl (Go.Own.run_arrayAt rfl Salg.underlying25 (by decide)) ?_
        simp only [Act.put, List.setIfInBounds_toArray, List.set_cons_zero, List.set_cons_succ]
        refine S_pick2 2 3 (by kernel_rfl) ?_ ?_
        · refine S_val (v := A64 q4) rfl rfl (HLD.out _ _ _ _ _ _ _ M.r0 rfl) ?_
          simp only [Act.put, List.setIfInBounds_toArray, List.set_cons_zero, List.set_cons_succ]
          refine S_pick2 3 5 (by kernel_rfl) ?_ ?_
          · refine S_val (v := A64 r4) rfl rfl (Go.Own.run_loadAll M.r2 rfl Salg.underlying25 rfl (by rw [size25]; simp [h4r])) ?_
            simp only [Act.put, List.setIfInBounds_toArray, List.set_cons_zero, List.set_cons_succ]
            refine S_pick1 5 (by kernel_rfl) ?_
            refine S_sto rfl rfl (Go.Own.run_storeAll (vs := (q4.map n64).toArray) M.r3 rfl rfl size25 (by simp [h4]) (one64 _)) ?_
            replace M := Mem.put (L1 := [_, _, _]) M (Or.inr hb3) (R64 25 q4)
            simp only [List.cons_append, List.nil_append] at M
            simp only [Act.put, List.setIfInBounds_toArray, List.set_cons_zero, List.set_cons_succ]
            refine S_pick1 6 (by kernel_rfl) ?_
            refine S_sto rfl rfl (Go.Own.run_storeAll (vs := (r4.map n64).toArray) M.r2 rfl rfl (by rw [size25]; simp [h4r]) rfl (one64 _)) ?_
            rw [putRow_same M.r2]
            simp only [Act.put, List.setIfInBounds_toArray, List.set_cons_zero, List.set_cons_succ]
            refine S_pick1 7 (by kernel_rfl) ?_
            refine S_sto rfl rfl (Go.Own.run_storeAll (vs := (p3.map n8).toArray) M.r1 rfl rfl (by rw [size178]; simp [h3]) rfl (one8 _)) ?_
            rw [putRow_same M.r1]
            simp only [Act.put, List.setIfInBounds_toArray, List.set_cons_zero, List.set_cons_succ]
            refine S_end (by kernel_rfl) ?_
            go_wp2_with fail
            exact ret_cell3 Salg.results131 rfl M.r3 Salg.underlying25 rfl (by rw [size25]; simp [h4]) rfl M.r2 Salg.underlying25 rfl (by rw [size25]; simp [h4r]) rfl M.r1 Salg.underlying178 rfl (by rw [size178]; simp [h3]) rfl ⟨rfl, M.kept⟩
          · refine S_sto rfl rfl (Go.Own.run_storeAll (vs := (q4.map n64).toArray) M.r3 rfl rfl size25 (by simp [h4]) (one64 _)) ?_
            replace M := Mem.put (L1 := [_, _, _]) M (Or.inr hb3) (R64 25 q4)
            simp only [List.cons_append, List.nil_append] at M
            simp only [Act.put, List.setIfInBounds_toArray, List.set_cons_zero, List.set_cons_succ]
            refine S_pick1 3 (by kernel_rfl) ?_
            refine S_val (v := A64 r4) rfl rfl (Go.Own.run_loadAll M.r2 rfl Salg.underlying25 rfl (by rw [size25]; simp [h4r])) ?_
            simp only [Act.put, List.setIfInBounds_toArray, List.set_cons_zero, List.set_cons_succ]
            refine S_pick1 6 (by kernel_rfl) ?_
            refine S_sto rfl rfl (Go.Own.run_storeAll (vs := (r4.map n64).toArray) M.r2 rfl rfl (by rw [size25]; simp [h4r]) rfl (one64 _)) ?_
            rw [putRow_same M.r2]
            simp only [Act.put, List.setIfInBounds_toArray, List.set_cons_zero, List.set_cons_succ]
            refine S_pick1 7 (by kernel_rfl) ?_
            refine S_sto rfl rfl (Go.Own.run_storeAll (vs := (p3.map n8).toArray) M.r1 rfl rfl (by rw [size178]; simp [h3]) rfl (one8 _)) ?_
            rw [putRow_same M.r1]
            simp only [Act.put, List.setIfInBounds_toArray, List.set_cons_zero, List.set_cons_succ]
            refine S_end (by kernel_rfl) ?_
            go_wp2_with fail
            exact ret_cell3 Salg.results131 rfl M.r3 Salg.underlying25 rfl (by rw [size25]; simp [h4]) rfl M.r2 Salg.underlying25 rfl (by rw [size25]; simp [h4r]) rfl M.r1 Salg.underlying178 rfl (by rw [size178]; simp [h3]) rfl ⟨rfl, M.kept⟩
        · refine S_val (v := A64 r4) rfl rfl (Go.Own.run_loadAll M.r2 rfl Salg.underlying25 rfl (by rw [size25]; simp [h4r])) ?_
          simp only [Act.put, List.setIfInBounds_toArray, List.set_cons_zero, List.set_cons_succ]
          refine S_pick1 2 (by kernel_rfl) ?_
          refine S_val (v := A64 q4) rfl rfl (HLD.out _ _ _ _ _ _ _ M.r0 rfl) ?_
          simp only [Act.put, List.setIfInBounds_toArray, List.set_cons_zero, List.set_cons_succ]
          refine S_pick1 5 (by kernel_rfl) ?_
          refine S_sto rfl rfl (Go.Own.run_storeAll (vs := (q4.map n64).toArray) M.r3 rfl rfl size25 (by simp [h4]) (one64 _)) ?_
          replace M := Mem.put (L1 := [_, _, _]) M (Or.inr hb3) (R64 25 q4)
          simp only [List.cons_append, List.nil_append] at M
          simp only [Act.put, List.setIfInBounds_toArray, List.set_cons_zero, List.set_cons_succ]
          refine S_pick1 6 (by kernel_rfl) ?_
          refine S_sto rfl rfl (Go.Own.run_storeAll (vs := (r4.map n64).toArray) M.r2 rfl rfl (by rw [size25]; simp [h4r]) rfl (one64 _)) ?_
          rw [putRow_same M.r2]
          simp only [Act.put, List.setIfInBounds_toArray, List.set_cons_zero, List.set_cons_succ]
          refine S_pick1 7 (by kernel_rfl) ?_
          refine S_sto rfl rfl (Go.Own.run_storeAll (vs := (p3.map n8).toArray) M.r1 rfl rfl (by rw [size178]; simp [h3]) rfl (one8 _)) ?_
          rw [putRow_same M.r1]
          simp only [Act.put, List.setIfInBounds_toArray, List.set_cons_zero, List.set_cons_succ]
          refine S_end (by kernel_rfl) ?_
          go_wp2_with fail
          exact ret_cell3 Salg.results131 rfl M.r3 Salg.underlying25 rfl (by rw [size25]; simp [h4]) rfl M.r2 Salg.underlying25 rfl (by rw [size25]; simp [h4r]) rfl M.r1 Salg.underlying178 rfl (by rw [size178]; simp [h3]) rfl ⟨rfl, M.kept⟩
      · refine S_val (v := A64 r4) rfl rfl (Go.Own.run_loadAll M.r2 rfl Salg.underlying25 rfl (by rw [size25]; simp [h4r])) ?_
        simp only [Act.put, List.setIfInBounds_toArray, List.set_cons_zero, List.set_cons_succ]
        refine S_pick1 1 (by kernel_rfl) ?_
        refine S_val rfl rfl (Go.Own.run_arrayAt rfl Salg.underlying25 (by decide)) ?_
        simp only [Act.put, List.setIfInBounds_toArray, List.set_cons_zero, List.set_cons_succ]
        refine S_pick1 2 (by kernel_rfl) ?_
        refine S_val (v := A64 q4) rfl rfl (HLD.out _ _ _ _ _ _ _ M.r0 rfl) ?_
        simp only [Act.put, List.setIfInBounds_toArray, List.set_cons_zero, List.set_cons_succ]
        refine S_pick1 5 (by kernel_rfl) ?_
        refine S_sto rfl rfl (Go.Own.run_storeAll (vs := (q4.map n64).toArray) M.r3 rfl rfl size25 (by simp [h4]) (one64 _)) ?_
        replace M := Mem.put (L1 := [_, _, _]) M (Or.inr hb3) (R64 25 q4)
        simp only [List.cons_append, List.nil_append] at M
        simp only [Act.put, List.setIfInBounds_toArray, List.set_cons_zero, List.set_cons_succ]
        refine S_pick1 6 (by kernel_rfl) ?_
        refine S_sto rfl rfl (Go.Own.run_storeAll (vs := (r4.map n64).toArray) M.r2 rfl rfl (by rw [size25]; simp [h4r]) rfl (one64 _)) ?_
        rw [putRow_same M.r2]
        simp only [Act.put, List.setIfInBounds_toArray, List.set_cons_zero, List.set_cons_succ]
        refine S_pick1 7 (by kernel_rfl) ?_
        refine S_sto rfl rfl (Go.Own.run_storeAll (vs := (p3.map n8).toArray) M.r1 rfl rfl (by rw [size178]; simp [h3]) rfl (one8 _)) ?_
        rw [putRow_same M.r1]
        simp only [Act.put, List.setIfInBounds_toArray, List.set_cons_zero, List.set_cons_succ]
        refine S_end (by kernel_rfl) ?_
        go_wp2_with fail
        exact ret_cell3 Salg.results131 rfl M.r3 Salg.underlying25 rfl (by rw [size25]; simp [h4]) rfl M.r2 Salg.underlying25 rfl (by rw [size25]; simp [h4r]) rfl M.r1 Salg.underlying178 rfl (by rw [size178]; simp [h3]) rfl ⟨rfl, M.kept⟩
  · refine S_val (v := A64 r4) rfl rfl (Go.Own.run_loadAll M.r2 rfl Salg.underlying25 rfl (by rw [size25]; simp [h4r])) ?_
    simp only [Act.put, List.setIfInBounds_toArray, List.set_cons_zero, List.set_cons_succ]
    refine S_pick2 0 4 (by kernel_rfl) ?_ ?_
    · refine S_val (v := .slice (some ⟨b6, 0, none⟩) 4 8) rfl rfl (Go.Own.run_sliceArr (l := 0) (h := 4) (m := 8) rfl Salg.underlying183 size23 (by (first | exact Or.inl ⟨rfl, rfl⟩ | exact Or.inr ⟨_, _, _, rfl, rfl, by omega⟩)) (by (first | exact Or.inl ⟨rfl, rfl⟩ | exact Or.inr ⟨_, _, _, rfl, rfl, by omega⟩)) (by (first | exact Or.inl ⟨rfl, rfl⟩ | exact Or.inr ⟨_, _, _, rfl, rfl, by omega⟩)) (by first | exact Or.inl rfl | exact Or.inr rfl) (by omega) (by omega) (by omega) (by omega)) ?_
      simp only [Act.put, List.setIfInBounds_toArray, List.set_cons_zero, List.set_cons_succ]
      refine S_pick2 1 4 (by kernel_rfl) ?_ ?_
      · refine S_val rfl rfl (Go.Own.run_arrayAt rfl Salg.underlying25 (by decide)) ?_
        simp only [Act.put, List.setIfInBounds_toArray, List.set_cons_zero, List.set_cons_succ]
        refine S_pick2 2 4 (by kernel_rfl) ?_ ?_
        · refine S_val (v := A64 q4) rfl rfl (HLD.out _ _ _ _ _ _ _ M.r0 rfl) ?_
          simp only [Act.put, List.setIfInBounds_toArray, List.set_cons_zero, List.set_cons_succ]
          refine S_pick2 4 5 (by kernel_rfl) ?_ ?_
          · refine S_val (v := A8 p3) rfl rfl (Go.Own.run_loadAll M.r1 rfl Salg.underlying178 rfl (by rw [size178]; simp [h3])) ?_
            simp only [Act.put, List.setIfInBounds_toArray, List.set_cons_zero, List.set_cons_succ]
            refine S_pick1 5 (by kernel_rfl) ?_
            refine S_sto rfl rfl (Go.Own.run_storeAll (vs := (q4.map n64).toArray) M.r3 rfl rfl size25 (by simp [h4]) (one64 _)) ?_
            replace M := Mem.put (L1 := [_, _, _]) M (Or.inr hb3) (R64 25 q4)
            simp only [List.cons_append, List.nil_append] at M
            simp only [Act.put, List.setIfInBounds_toArray, List.set_cons_zero, List.set_cons_succ]
            refine S_pick1 6 (by kernel_rfl) ?_
            refine S_sto rfl rfl (Go.Own.run_storeAll (vs := (r4.map n64).toArray) M.r2 rfl rfl (by rw [size25]; simp [h4r]) rfl (one64 _)) ?_
            rw [putRow_same M.r2]
            simp only [Act.put, List.setIfInBounds_toArray, List.set_cons_zero, List.set_cons_succ]
            refine S_pick1 7 (by kernel_rfl) ?_
            refine S_sto rfl rfl (Go.Own.run_storeAll (vs := (p3.map n8).toArray) M.r1 rfl rfl (by rw [size178]; simp [h3]) rfl (one8 _)) ?_
            rw [putRow_same M.r1]
            simp only [Act.put, List.setIfInBounds_toArray, List.set_cons_zero, List.set_cons_succ]
            refine S_end (by kernel_rfl) ?_
            go_wp2_with fail
            exact ret_cell3 Salg.results131 rfl M.r3 Salg.underlying25 rfl (by rw [size25]; simp [h4]) rfl M.r2 Salg.underlying25 rfl (by rw [size25]; simp [h4r]) rfl M.r1 Salg.underlying178 rfl (by rw [size178]; simp [h3]) rfl ⟨rfl, M.kept⟩
          · refine S_sto rfl rfl (Go.Own.run_storeAll (vs := (q4.map n64).toArray) M.r3 rfl rfl size25 (by simp [h4]) (one64 _)) ?_
            replace M := Mem.put (L1 := [_, _, _]) M (Or.inr hb3) (R64 25 q4)
            simp only [List.cons_append, List.nil_append] at M
            simp only [Act.put, List.setIfInBounds_toArray, List.set_cons_zero, List.set_cons_succ]
            refine S_pick2 4 6 (by kernel_rfl) ?_ ?_
            · refine S_val (v := A8 p3) rfl rfl (Go.Own.run_loadAll M.r1 rfl Salg.underlying178 rfl (by rw [size178]; simp [h3])) ?_
              simp only [Act.put, List.setIfInBounds_toArray, List.set_cons_zero, List.set_cons_succ]
              refine S_pick1 6 (by kernel_rfl) ?_
              refine S_sto rfl rfl (Go.Own.run_storeAll (vs := (r4.map n64).toArray) M.r2 rfl rfl (by rw [size25]; simp [h4r]) rfl (one64 _)) ?_
              rw [putRow_same M.r2]
              simp only [Act.put, List.setIfInBounds_toArray, List.set_cons_zero, List.set_cons_succ]
              refine S_pick1 7 (by kernel_rfl) ?_
              refine S_sto rfl rfl (Go.Own.run_storeAll (vs := (p3.map n8).toArray) M.r1 rfl rfl (by rw [size178]; simp [h3]) rfl (one8 _)) ?_
              rw [putRow_same M.r1]
              simp only [Act.put, List.setIfInBounds_toArray, List.set_cons_zero, List.set_cons_succ]
              refine S_end (by kernel_rfl) ?_
              go_wp2_with fail
              exact ret_cell3 Salg.results131 rfl M.r3 Salg.underlying25 rfl (by rw [size25]; simp [h4]) rfl M.r2 Salg.underlying25 rfl (by rw [size25]; simp [h4r]) rfl M.r1 Salg.underlying178 rfl (by rw [size178]; simp [h3]) rfl ⟨rfl, M.kept⟩
            · refine S_sto rfl rfl (Go.Own.run_storeAll (vs := (r4.map n64).toArray) M.r2 rfl rfl (by rw [size25]; simp [h4r]) rfl (one64 _)) ?_
              rw [putRow_same M.r2]
              simp only [Act.put, List.setIfInBounds_toArray, List.set_cons_zero, List.set_cons_succ]
              refine S_pick1 4 (by kernel_rfl) ?_
              refine S_val (v := A8 p3) rfl rfl (Go.Own.run_loadAll M.r1 rfl Salg.underlying178 rfl (by rw [size178]; simp [h3])) ?_
              simp only [Act.put, List.setIfInBounds_toArray, List.set_cons_zero, List.set_cons_succ]
              refine S_pick1 7 (by kernel_rfl) ?_
              refine S_sto rfl rfl (Go.Own.run_storeAll (vs := (p3.map n8).toArray) M.r1 rfl rfl (by rw [size178]; simp [h3]) rfl (one8 _)) ?_
              rw [putRow_same M.r1]
              simp only [Act.put, List.setIfInBounds_toArray, List.set_cons_zero, List.set_cons_succ]
              refine S_end (by kernel_rfl) ?_
              go_wp2_with fail
              exact ret_cell3 Salg.results131 rfl M.r3 Salg.underlying25 rfl (by rw [size25]; simp [h4]) rfl M.r2 Salg.underlying25 rfl (by rw [size25]; simp [h4r]) rfl M.r1 Salg.underlying178 rfl (by rw [size178]; simp [h3]) rfl ⟨rfl, M.kept⟩
        · refine S_val (v := A8 p3) rfl rfl (Go.Own.run_loadAll M.r1 rfl Salg.underlying178 rfl (by rw [size178]; simp [h3])) ?_
          simp only [Act.put, List.setIfInBounds_toArray, List.set_cons_zero, List.set_cons_succ]
          refine S_pick1 2 (by kernel_rfl) ?_
          refine S_val (v := A64 q4) rfl rfl (HLD.out _ _ _ _ _ _ _ M.r0 rfl) ?_
          simp only [Act.put, List.setIfInBounds_toArray, List.set_cons_zero, List.set_cons_succ]
          refine S_pick1 5 (by kernel_rfl) ?_
          refine S_sto rfl rfl (Go.Own.run_storeAll (vs := (q4.map n64).toArray) M.r3 rfl rfl size25 (by simp [h4]) (one64 _)) ?_
          replace M := Mem.put (L1 := [_, _, _]) M (Or.inr hb3) (R64 25 q4)
          simp only [List.cons_append, List.nil_append] at M
          simp only [Act.put, List.setIfInBounds_toArray, List.set_cons_zero, List.set_cons_succ]
          refine S_pick1 6 (by kernel_rfl) ?_
          refine S_sto rfl rfl (Go.Own.run_storeAll (vs := (r4.map n64).toArray) M.r2 rfl rfl (by rw [size25]; simp [h4r]) rfl (one64 _)) ?_
          rw [putRow_same M.r2]
          simp only [Act.put, List.setIfInBounds_toArray, List.set_cons_zero, List.set_cons_succ]
          refine S_pick1 7 (by kernel_rfl) ?_
          refine S_sto rfl rfl (Go.Own.run_storeAll (vs := (p3.map n8).toArray) M.r1 rfl rfl (by rw [size178]; simp [h3]) rfl (one8 _)) ?_
          rw [putRow_same M.r1]
          simp only [Act.put, List.setIfInBounds_toArray, List.set_cons_zero, List.set_cons_succ]
          refine S_end (by kernel_rfl) ?_
          go_wp2_with fail
          exact ret_cell3 Salg.results131 rfl M.r3 Salg.underlying25 rfl (by rw [size25]; simp [h4]) rfl M.r2 Salg.underlying25 rfl (by rw [size25]; simp [h4r]) rfl M.r1 Salg.underlying178 rfl (by rw [size178]; simp [h3]) rfl ⟨rfl, M.kept⟩
      · refine S_val (v := A8 p3) rfl rfl (Go.Own.run_loadAll M.r1 rfl Salg.underlying178 rfl (by rw [size178]; simp [h3])) ?_
        simp only [Act.put, List.setIfInBounds_toArray, List.set_cons_zero, List.set_cons_succ]
        refine S_pick1 1 (by kernel_rfl) ?_
        refine S_val rfl rfl (Go.Own.run_arrayAt rfl Salg.underlying25 (by decide)) ?_
        simp only [Act.put, List.setIfInBounds_toArray, List.set_cons_zero, List.set_cons_succ]
        refine S_pick1 2 (by kernel_rfl) ?_
        refine S_val (v := A64 q4) rfl rfl (HLD.out _ _ _ _ _ _ _ M.r0 rfl) ?_
        simp only [Act.put, List.setIfInBounds_toArray, List.set_cons_zero, List.set_cons_succ]
        refine S_pick1 5 (by kernel_rfl) ?_
        refine S_sto rfl rfl (Go.Own.run_storeAll (vs := (q4.map n64).toArray) M.r3 rfl rfl size25 (by simp [h4]) (one64 _)) ?_
        replace M := Mem.put (L1 := [_, _, _]) M (Or.inr hb3) (R64 25 q4)
        simp only [List.cons_append, List.nil_append] at M
        simp only [Act.put, List.setIfInBounds_toArray, List.set_cons_zero, List.set_cons_succ]
        refine S_pick1 6 (by kernel_rfl) ?_
        refine S_sto rfl rfl (Go.Own.run_storeAll (vs := (r4.map n64).toArray) M.r2 rfl rfl (by rw [size25]; simp [h4r]) rfl (one64 _)) ?_
        rw [putRow_same M.r2]
        simp only [Act.put, List.setIfInBounds_toArray, List.set_cons_zero, List.set_cons_succ]
        refine S_pick1 7 (by kernel_rfl) ?_
        refine S_sto rfl rfl (Go.Own.run_storeAll (vs := (p3.map n8).toArray) M.r1 rfl rfl (by rw [size178]; simp [h3]) rfl (one8 _)) ?_
        rw [putRow_same M.r1]
        simp only [Act.put, List.setIfInBounds_toArray, List.set_cons_zero, List.set_cons_succ]
        refine S_end (by kernel_rfl) ?_
        go_wp2_with fail
        exact ret_cell3 Salg.results131 rfl M.r3 Salg.underlying25 rfl (by rw [size25]; simp [h4]) rfl M.r2 Salg.underlying25 rfl (by rw [size25]; simp [h4r]) rfl M.r1 Salg.underlying178 rfl (by rw [size178]; simp [h3]) rfl ⟨rfl, M.kept⟩
    · refine S_val (v := A8 p3) rfl rfl (Go.Own.run_loadAll M.r1 rfl Salg.underlying178 rfl (by rw [size178]; simp [h3])) ?_
      simp only [Act.put, List.setIfInBounds_toArray, List.set_cons_zero, List.set_cons_succ]
      refine S_pick1 0 (by kernel_rfl) ?_
      refine S_val (v := .slice (some ⟨b6, 0, none⟩) 4 8) rfl rfl (Go.Own.run_sliceArr (l := 0) (h := 4) (m := 8) rfl Salg.underlying183 size23 (by (first | exact Or.inl ⟨rfl, rfl⟩ | exact Or.inr ⟨_, _, _, rfl, rfl, by omega⟩)) (by (first | exact Or.inl ⟨rfl, rfl⟩ | exact Or.inr ⟨_, _, _, rfl, rfl, by omega⟩)) (by (first | exact Or.inl ⟨rfl, rfl⟩ | exact Or.inr ⟨_, _, _, rfl, rfl, by omega⟩)) (by first | exact Or.inl rfl | exact Or.inr rfl) (by omega) (by omega) (by omega) (by omega)) ?_
      simp only [Act.put, List.setIfInBounds_toArray, List.set_cons_zero, List.set_cons_succ]
      refine S_pick1 1 (by kernel_rfl) ?_
      refine S_val rfl rfl (Go.Own.run_arrayAt rfl Salg.underlying25 (by decide)) ?_
      simp only [Act.put, List.setIfInBounds_toArray, List.set_cons_zero, List.set_cons_succ]
      refine S_pick1 2 (by kernel_rfl) ?_
      refine S_val (v := A64 q4) rfl rfl (HLD.out _ _ _ _ _ _ _ M.r0 rfl) ?_
      simp only [Act.put, List.setIfInBounds_toArray, List.set_cons_zero, List.set_cons_succ]
      refine S_pick1 5 (by kernel_rfl) ?_
      refine S_sto rfl rfl (Go.Own.run_storeAll (vs := (q4.map n64).toArray) M.r3 rfl rfl size25 (by simp [h4]) (one64 _)) ?_
      replace M := Mem.put (L1 := [_, _, _]) M (Or.inr hb3) (R64 25 q4)
      simp only [List.cons_append, List.nil_append] at M
      simp only [Act.put, List.setIfInBounds_toArray, List.set_cons_zero, List.set_cons_succ]
      refine S_pick1 6 (by kernel_rfl) ?_
      refine S_sto rfl rfl (Go.Own.run_storeAll (vs := (r4.map n64).toArray) M.r2 rfl rfl (by rw [size25]; simp [h4r]) rfl (one64 _)) ?_
      rw [putRow_same M.r2]
      simp only [Act.put, List.setIfInBounds_toArray, List.set_cons_zero, List.set_cons_succ]
      refine S_pick1 7 (by kernel_rfl) ?_
      refine S_sto rfl rfl (Go.Own.run_storeAll (vs := (p3.map n8).toArray) M.r1 rfl rfl (by rw [size178]; simp [h3]) rfl (one8 _)) ?_
      rw [putRow_same M.r1]
      simp only [Act.put, List.setIfInBounds_toArray, List.set_cons_zero, List.set_cons_succ]
      refine S_end (by kernel_rfl) ?_
      go_wp2_with fail
      exact ret_cell3 Salg.results131 rfl M.r3 Salg.underlying25 rfl (by rw [size25]; simp [h4]) rfl M.r2 Salg.underlying25 rfl (by rw [size25]; simp [h4r]) rfl M.r1 Salg.underlying178 rfl (by rw [size178]; simp [h3]) rfl ⟨rfl, M.kept⟩
  · refine S_val (v := A8 p3) rfl rfl (Go.Own.run_loadAll M.r1 rfl Salg.underlying178 rfl (by rw [size178]; simp [h3])) ?_
    simp only [Act.put, List.setIfInBounds_toArray, List.set_cons_zero, List.set_cons_succ]
    refine S_pick2 0 3 (by kernel_rfl) ?_ ?_
    · refine S_val (v := .slice (some ⟨b6, 0, none⟩) 4 8) rfl rfl (Go.Own.run_sliceArr (l := 0) (h := 4) (m := 8) rfl Salg.underlying183 size23 (by (first | exact Or.inl ⟨rfl, rfl⟩ | exact Or.inr ⟨_, _, _, rfl, rfl, by omega⟩)) (by (first | exact Or.inl ⟨rfl, rfl⟩ | exact Or.inr ⟨_, _, _, rfl, rfl, by omega⟩)) (by (first | exact Or.inl ⟨rfl, rfl⟩ | exact Or.inr ⟨_, _, _, rfl, rfl, by omega⟩)) (by first | exact Or.inl rfl | exact Or.inr rfl) (by omega) (by omega) (by omega) (by omega)) ?_
      simp only [Act.put, List.setIfInBounds_toArray, List.set_cons_zero, List.set_cons_succ]
      refine S_pick2 1 3 (by kernel_rfl) ?_ ?_
      · refine S_val rfl rfl (Go.Own.run_arrayAt rfl Salg.underlying25 (by decide)) ?_
        simp only [Act.put, List.setIfInBounds_toArray, List.set_cons_zero, List.set_cons_succ]
        refine S_pick2 2 3 (by kernel_rfl) ?_ ?_
        · refine S_val (v := A64 q4) rfl rfl (HLD.out _ _ _ _ _ _ _ M.r0 rfl) ?_
          simp only [Act.put, List.setIfInBounds_toArray, List.set_cons_zero, List.set_cons_succ]
          refine S_pick2 3 5 (by kernel_rfl) ?_ ?_
          · refine S_val (v := A64 r4) rfl rfl (Go.Own.run_loadAll M.r2 rfl Salg.underlying25 rfl (by rw [size25]; simp [h4r])) ?_
            simp only [Act.put, List.setIfInBounds_toArray, List.set_cons_zero, List.set_cons_succ]
            refine S_pick1 5 (by kernel_rfl) ?_
            refine S_sto rfl rfl (Go.Own.run_storeAll (vs := (q4.map n64).toArray) M.r3 rfl rfl size25 (by simp [h4]) (one64 _)) ?_
            replace M := Mem.put (L1 := [_, _, _]) M (Or.inr hb3) (R64 25 q4)
            simp only [List.cons_append, List.nil_append] at M
            simp only [Act.put, List.setIfInBounds_toArray, List.set_cons_zero, List.set_cons_succ]
            refine S_pick1 6 (by kernel_rfl) ?_
            refine S_sto rfl rfl (Go.Own.run_storeAll (vs := (r4.map n64).toArray) M.r2 rfl rfl (by rw [size25]; simp [h4r]) rfl (one64 _)) ?_
            rw [putRow_same M.r2]
            simp only [Act.put, List.setIfInBounds_toArray, List.set_cons_zero, List.set_cons_succ]
            refine S_pick1 7 (by kernel_rfl) ?_
            refine S_sto rfl rfl (Go.Own.run_storeAll (vs := (p3.map n8).toArray) M.r1 rfl rfl (by rw [size178]; simp [h3]) rfl (one8 _)) ?_
            rw [putRow_same M.r1]
            simp only [Act.put, List.setIfInBounds_toArray, List.set_cons_zero, List.set_cons_succ]
            refine S_end (by kernel_rfl) ?_
            go_wp2_with fail
            exact ret_cell3 Salg.results131 rfl M.r3 Salg.underlying25 rfl (by rw [size25]; simp [h4]) rfl M.r2 Salg.underlying25 rfl (by rw [size25]; simp [h4r]) rfl M.r1 Salg.underlying178 rfl (by rw [size178]; simp [h3]) rfl ⟨rfl, M.kept⟩
          · refine S_sto rfl rfl (Go.Own.run_storeAll (vs := (q4.map n64).toArray) M.r3 rfl rfl size25 (by simp [h4]) (one64 _)) ?_
            replace M := Mem.put (L1 := [_, _, _]) M (Or.inr hb3) (R64 25 q4)
            simp only [List.cons_append, List.nil_append] at M
            simp only [Act.put, List.setIfInBounds_toArray, List.set_cons_zero, List.set_cons_succ]
            refine S_pick1 3 (by kernel_rfl) ?_
            refine S_val (v := A64 r4) rfl rfl (Go.Own.run_loadAll M.r2 rfl Salg.underlying25 rfl (by rw [size25]; simp [h4r])) ?_
            simp only [Act.put, List.setIfInBounds_toArray, List.set_cons_zero, List.set_cons_succ]
            refine S_pick1 6 (by kernel_rfl) ?_
            refine S_sto rfl rfl (Go.Own.run_storeAll (vs := (r4.map n64).toArray) M.r2 rfl rfl (by rw [size25]; simp [h4r]) rfl (one64 _)) ?_
            rw [putRow_same M.r2]
            simp only [Act.put, List.setIfInBounds_toArray, List.set_cons_zero, List.set_cons_succ]
            refine S_pick1 7 (by kernel_rfl) ?_
            refine S_sto rfl rfl (Go.Own.run_storeAll (vs := (p3.map n8).toArray) M.r1 rfl rfl (by rw [size178]; simp [h3]) rfl (one8 _)) ?_
            rw [putRow_same M.r1]
            simp only [Act.put, List.setIfInBounds_toArray, List.set_cons_zero, List.set_cons_succ]
            refine S_end (by kernel_rfl) ?_
            go_wp2_with fail
            exact ret_cell3 Salg.results131 rfl M.r3 Salg.underlying25 rfl (by rw [size25]; simp [h4]) rfl M.r2 Salg.underlying25 rfl (by rw [size25]; simp [h4r]) rfl M.r1 Salg.underlying178 rfl (by rw [size178]; simp [h3]) rfl ⟨rfl, M.kept⟩
        · refine S_val (v := A64 r4) rfl rfl (Go.Own.run_loadAll M.r2 rfl Salg.underlying25 rfl (by rw [size25]; simp [h4r])) ?_
          simp only [Act.put, List.setIfInBounds_toArray, List.set_cons_zero, List.set_cons_succ]
          refine S_pick1 2 (by kernel_rfl) ?_
          refine S_val (v := A64 q4) rfl rfl (HLD.out _ _ _ _ _ _ _ M.r0 rfl) ?_
          simp only [Act.put, List.setIfInBounds_toArray, List.set_cons_zero, List.set_cons_succ]
          refine S_pick1 5 (by kernel_rfl) ?_
          refine S_sto rfl rfl (Go.Own.run_storeAll (vs := (q4.map n64).toArray) M.r3 rfl rfl size25 (by simp [h4]) (one64 _)) ?_
          replace M := Mem.put (L1 := [_, _, _]) M (Or.inr hb3) (R64 25 q4)
          simp only [List.cons_append, List.nil_append] at M
          simp only [Act.put, List.setIfInBounds_toArray, List.set_cons_zero, List.set_cons_succ]
          refine S_pick1 6 (by kernel_rfl) ?_
          refine S_sto rfl rfl (Go.Own.run_storeAll (vs := (r4.map n64).toArray) M.r2 rfl rfl (by rw [size25]; simp [h4r]) rfl (one64 _)) ?_
          rw [putRow_same M.r2]
          simp only [Act.put, List.setIfInBounds_toArray, List.set_cons_zero, List.set_cons_succ]
          refine S_pick1 7 (by kernel_rfl) ?_
          refine S_sto rfl rfl (Go.Own.run_storeAll (vs := (p3.map n8).toArray) M.r1 rfl rfl (by rw [size178]; simp [h3]) rfl (one8 _)) ?_
          rw [putRow_same M.r1]
          simp only [Act.put, List.setIfInBounds_toArray, List.set_cons_zero, List.set_cons_succ]
          refine S_end (by kernel_rfl) ?_
          go_wp2_with fail
          exact ret_cell3 Salg.results131 rfl M.r3 Salg.underlying25 rfl (by rw [size25]; simp [h4]) rfl M.r2 Salg.underlying25 rfl (by rw [size25]; simp [h4r]) rfl M.r1 Salg.underlying178 rfl (by rw [size178]; simp [h3]) rfl ⟨rfl, M.kept⟩
      · refine S_val (v := A64 r4) rfl rfl (Go.Own.run_loadAll M.r2 rfl Salg.underlying25 rfl (by rw [size25]; simp [h4r])) ?_
        simp only [Act.put, List.setIfInBounds_toArray, List.set_cons_zero, List.set_cons_succ]
        refine S_pick1 1 (by kernel_rfl) ?_
        refine S_val rfl rfl (Go.Own.run_arrayAt rfl Salg.underlying25 (by decide)) ?_
        simp only [Act.put, List.setIfInBounds_toArray, List.set_cons_zero, List.set_cons_succ]
        refine S_pick1 2 (by kernel_rfl) ?_
        refine S_val (v := A64 q4) rfl rfl (HLD.out _ _ _ _ _ _ _ M.r0 rfl) ?_
        simp only [Act.put, List.setIfInBounds_toArray, List.set_cons_zero, List.set_cons_succ]
        refine S_pick1 5 (by kernel_rfl) ?_
        refine S_sto rfl rfl (Go.Own.run_storeAll (vs := (q4.map n64).toArray) M.r3 rfl rfl size25 (by simp [h4]) (one64 _)) ?_
        replace M := Mem.put (L1 := [_, _, _]) M (Or.inr hb3) (R64 25 q4)
        simp only [List.cons_append, List.nil_append] at M
        simp only [Act.put, List.setIfInBounds_toArray, List.set_cons_zero, List.set_cons_succ]
        refine S_pick1 6 (by kernel_rfl) ?_
        refine S_sto rfl rfl (Go.Own.run_storeAll (vs := (r4.map n64).toArray) M.r2 rfl rfl (by rw [size25]; simp [h4r]) rfl (one64 _)) ?_
        rw [putRow_same M.r2]
        simp only [Act.put, List.setIfInBounds_toArray, List.set_cons_zero, List.set_cons_succ]
        refine S_pick1 7 (by kernel_rfl) ?_
        refine S_sto rfl rfl (Go.Own.run_storeAll (vs := (p3.map n8).toArray) M.r1 rfl rfl (by rw [size178]; simp [h3]) rfl (one8 _)) ?_
        rw [putRow_same M.r1]
        simp only [Act.put, List.setIfInBounds_toArray, List.set_cons_zero, List.set_cons_succ]
        refine S_end (by kernel_rfl) ?_
        go_wp2_with fail
        exact ret_cell3 Salg.results131 rfl M.r3 Salg.underlying25 rfl (by rw [size25]; simp [h4]) rfl M.r2 Salg.underlying25 rfl (by rw [size25]; simp [h4r]) rfl M.r1 Salg.underlying178 rfl (by rw [size178]; simp [h3]) rfl ⟨rfl, M.kept⟩
    · refine S_val (v := A64 r4) rfl rfl (Go.Own.run_loadAll M.r2 rfl Salg.underlying25 rfl (by rw [size25]; simp [h4r])) ?_
      simp only [Act.put, List.setIfInBounds_toArray, List.set_cons_zero, List.set_cons_succ]
      refine S_pick1 0 (by kernel_rfl) ?_
      refine S_val (v := .slice (some ⟨b6, 0, none⟩) 4 8) rfl rfl (Go.Own.run_sliceArr (l := 0) (h := 4) (m := 8) rfl Salg.underlying183 size23 (by (first | exact Or.inl ⟨rfl, rfl⟩ | exact Or.inr ⟨_, _, _, rfl, rfl, by omega⟩)) (by (first | exact Or.inl ⟨rfl, rfl⟩ | exact Or.inr ⟨_, _, _, rfl, rfl, by omega⟩)) (by (first | exact Or.inl ⟨rfl, rfl⟩ | exact Or.inr ⟨_, _, _, rfl, rfl, by omega⟩)) (by first | exact Or.inl rfl | exact Or.inr rfl) (by omega) (by omega) (by omega) (by omega)) ?_
      simp only [Act.put, List.setIfInBounds_toArray, List.set_cons_zero, List.set_cons_succ]
      refine S_pick1 1 (by kernel_rfl) ?_
      refine S_val rfl rfl (Go.Own.run_arrayAt rfl Salg.underlying25 (by decide)) ?_
      simp only [Act.put, List.setIfInBounds_toArray, List.set_cons_zero, List.set_cons_succ]
      refine S_pick1 2 (by kernel_rfl) ?_
      refine S_val (v := A64 q4) rfl rfl (HLD.out _ _ _ _ _ _ _ M.r0 rfl) ?_
      simp only [Act.put, List.setIfInBounds_toArray, List.set_cons_zero, List.set_cons_succ]
      refine S_pick1 5 (by kernel_rfl) ?_
      refine S_sto rfl rfl (Go.Own.run_storeAll (vs := (q4.map n64).toArray) M.r3 rfl rfl size25 (by simp [h4]) (one64 _)) ?_
      replace M := Mem.put (L1 := [_, _, _]) M (Or.inr hb3) (R64 25 q4)
      simp only [List.cons_append, List.nil_append] at M
      simp only [Act.put, List.setIfInBounds_toArray, List.set_cons_zero, List.set_cons_succ]
      refine S_pick1 6 (by kernel_rfl) ?_
      refine S_sto rfl rfl (Go.Own.run_storeAll (vs := (r4.map n64).toArray) M.r2 rfl rfl (by rw [size25]; simp [h4r]) rfl (one64 _)) ?_
      rw [putRow_same M.r2]
      simp only [Act.put, List.setIfInBounds_toArray, List.set_cons_zero, List.set_cons_succ]
      refine S_pick1 7 (by kernel_rfl) ?_
      refine S_sto rfl rfl (Go.Own.run_storeAll (vs := (p3.map n8).toArray) M.r1 rfl rfl (by rw [size178]; simp [h3]) rfl (one8 _)) ?_
      rw [putRow_same M.r1]
      simp only [Act.put, List.setIfInBounds_toArray, List.set_cons_zero, List.set_cons_succ]
      refine S_end (by kernel_rfl) ?_
      go_wp2_with fail
      exact ret_cell3 Salg.results131 rfl M.r3 Salg.underlying25 rfl (by rw [size25]; simp [h4]) rfl M.r2 Salg.underlying25 rfl (by rw [size25]; simp [h4r]) rfl M.r1 Salg.underlying178 rfl (by rw [size178]; simp [h3]) rfl ⟨rfl, M.kept⟩
end Go.Proofs.YgcsalGreat

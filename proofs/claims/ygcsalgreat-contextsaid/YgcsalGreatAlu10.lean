/-
  The walk of u256's Exp.
-/
import Derived.Test.YgcsalGreatAlu9
import Derived.Test.YgcsalGreatAlu6
import Derived.Test.YgcsalGreatMul
import Derived.Test.YgcsalGreatSquare
import Derived.Test.YgcsalGreatPlainD
set_option linter.unusedSimpArgs false
namespace Go.Proofs.YgcsalGreat
open Go.RowKit Go.Own
theorem bit_and (y u : Nat) (hy : y < 18446744073709551616) : bits .and .u64 ((y : Int) / 2 ^ u) 1 = ((y / 2 ^ u % 2 : Nat) : Int) := by
  rw [div_cast]
  have h1 : y / 2 ^ u < 18446744073709551616 := Nat.lt_of_le_of_lt (Nat.div_le_self _ _) hy
  have h := bits_and_u64_nat (y / 2 ^ u) 1 h1 (by omega)
  rw [Nat.and_one_is_mod] at h
  exact h
theorem nl_mod (k v : Nat) : nl k (v % 18446744073709551616 ^ k) = nl k v :=
  nl_of_mod (nl_limbs _ _) (nl_length _ _) (by rw [nl_lval, Nat.mod_mod])
theorem wMulN (P A : Nat) (w : World) (hP : P < 18446744073709551616 ^ 4) (hA : A < 18446744073709551616 ^ 4) :
    Calls Salg.prog 39 #[A64 (nl 4 P), A64 (nl 4 A)] w fun e w' => e = .returned (A64 (nl 4 (P * A % 18446744073709551616 ^ 4))) ∧ Kept [] w w' := by
  have := wMul (nl 4 P) (nl 4 A) w (nl_length _ _) (nl_length _ _) (nl_limbs _ _) (nl_limbs _ _)
  rwa [nl_lval, nl_lval, Nat.mod_eq_of_lt hP, Nat.mod_eq_of_lt hA, ← nl_mod 4 (P * A)] at this
theorem wSquareN (A : Nat) (w : World) (hA : A < 18446744073709551616 ^ 4) :
    Calls Salg.prog 137 #[A64 (nl 4 A)] w fun e w' => e = .returned (A64 (nl 4 (A * A % 18446744073709551616 ^ 4))) ∧ Kept [] w w' := by
  have := wSquare (nl 4 A) w (nl_length _ _) (nl_limbs _ _)
  rwa [nl_lval, Nat.mod_eq_of_lt hA, ← nl_mod 4 (A * A)] at this
theorem wIsZeroN (A : Nat) (w : World) (hA : A < 18446744073709551616 ^ 4) :
    Calls Salg.prog 54 #[A64 (nl 4 A)] w fun e w' => e = .returned (.bool (decide (A = 0))) ∧ Kept [] w w' := by
  have := wIsZero (nl 4 A) w (nl_length _ _) (nl_limbs _ _)
  rwa [nl_lval, Nat.mod_eq_of_lt hA] at this
theorem nl4_zero : nl 4 0 = [0, 0, 0, 0] := rfl

set_option maxHeartbeats 2000000 in
set_option maxRecDepth 100000 in
theorem wExp (xs ys : List Nat) (w : World) (hx : xs.length = 4) (hy : ys.length = 4) (hLx : Limbs xs) (hLy : Limbs ys) :
    Calls Salg.prog 47 #[A64 xs, A64 ys] w fun e w' => e = .returned (A64 (nl 4 (expN (lval xs) (lval ys)))) ∧ Kept [] w w' := by
  have M := Mem.start w []
  have HLM := hid (fun w => limbs_any ys w hy)
  have hn := tl_nlb hLy hy
  simp only [hn] at HLM
  by_cases h0 : lval ys = 0
  · have hE : nl 4 (expN (lval xs) (lval ys)) = [1, 0, 0, 0] := by rw [h0, expN, Nat.pow_zero]; rfl
    rw [h0, nlb_zero] at HLM
    rw [hE]
    clear hE h0 hn hLx hLy
    go_enter Salg.func47, Salg.ntmps47
    go_wp2_with (first
      | ((with_reducible apply L_box (d := 2) M); rfl; clear M; intro c1 w1 hc1 M; simp only [Act.put, List.setIfInBounds_toArray, List.set_cons_zero, List.set_cons_succ])
      | ((with_reducible apply L_box (d := 3) M); rfl; clear M; intro c2 w1 hc2 M; simp only [Act.put, List.setIfInBounds_toArray, List.set_cons_zero, List.set_cons_succ])
      | ((with_reducible apply L_allocA (d := 4) M); exact zero25; clear M; intro c3 w1 hc3 M; simp only [Act.put, List.setIfInBounds_toArray, List.set_cons_zero, List.set_cons_succ])
      | ((with_reducible apply L_allocA (d := 5) M); exact zero25; clear M; intro c4 w1 hc4 M; simp only [Act.put, List.setIfInBounds_toArray, List.set_cons_zero, List.set_cons_succ])
      | ((with_reducible apply W_storeK (b := c4) (vs := (([1, 0, 0, 0] : List Nat).map n64).toArray)); rfl; rfl; exact M.r0; exact size25; (first | rfl | simp []); exact one64 _; intro w3 K hr3; replace M := Mem.callPut (L1 := []) M (Or.inr (by assumption)) K hr3; clear K hr3; simp only [List.cons_append, List.nil_append] at M)
      | ((with_reducible apply W_loadAll); rfl; (first | with_reducible exact M.r0 | with_reducible exact M.r1 | with_reducible exact M.r2 | with_reducible exact M.r3 | with_reducible exact M.r4 | with_reducible exact M.r5 | with_reducible exact M.r6 | assumption | exact M.kept.row (by assumption) (by simp)); exact Salg.underlying25; rfl; (first | with_reducible exact size25 | (rw [size25]; simp [hy])); simp only [Act.put, List.setIfInBounds_toArray, List.set_cons_zero, List.set_cons_succ]))
    refine (HLM.out _).mono ?_
    rintro e w2 ⟨rfl, K⟩
    replace M := M.call K
    clear K HLM
    go_wp2_with (first
      | ((with_reducible apply W_loadAll); rfl; (first | with_reducible exact M.r0 | with_reducible exact M.r1 | with_reducible exact M.r2 | with_reducible exact M.r3 | with_reducible exact M.r4 | with_reducible exact M.r5 | with_reducible exact M.r6 | assumption | exact M.kept.row (by assumption) (by simp)); exact Salg.underlying25; rfl; (first | with_reducible exact size25 | (rw [size25]; simp [])); simp only [Act.put, List.setIfInBounds_toArray, List.set_cons_zero, List.set_cons_succ])
      | ((with_reducible apply W_storeK (b := c3)); rfl; rfl; exact M.r1; exact size25; (first | rfl | simp []); exact one64 _; intro w3 K hr3; replace M := Mem.callPut (L1 := [_]) M (Or.inr (by assumption)) K hr3; clear K hr3; simp only [List.cons_append, List.nil_append] at M))
    exact ret_cell1 Salg.results47 rfl M.r1 Salg.underlying25 rfl size25 rfl ⟨rfl, M.kept⟩
  · have hp := nlb_pos h0
    obtain ⟨h4, ht, hb⟩ := blen_top hLy hy rfl hp
    have htl : ys.getD (nlb (lval ys) - 1) 0 < 18446744073709551616 := by rw [getD_get (by omega)]; exact hLy.get _
    have hg : ys[nlb (lval ys) - 1]? = some (ys.getD (nlb (lval ys) - 1) 0) := by rw [getD_get (by omega)]; exact List.getElem?_eq_getElem _
    have hbl := blen_le (x := ys.getD (nlb (lval ys) - 1) 0) (k := 64) htl
    have hbp := blen_pos ht
    have hbn : blen (lval ys) ≤ 64 * nlb (lval ys) := by unfold nlb; omega
    have HLA : Hid (blen (lval ys) - 1 = 64 * (nlb (lval ys) - 1) + blen (ys.getD (nlb (lval ys) - 1) 0) - 1) := by show _ = _; omega
    have hla : blen (lval ys) - 1 < 256 := by omega
    have HC := hid (fun w => wLen64 _ htl w)
    have hpos : ∀ k, k ≤ blen (lval ys) - 1 → 0 < lval ys / 2 ^ k := by
      intro k hk
      have h1 := blen_ge h0
      have h2 : 2 ^ k ≤ 2 ^ (blen (lval ys) - 1) := Nat.pow_le_pow_right (by decide) hk
      exact Nat.div_pos (by omega) (Nat.pow_pos (by decide))
    have HONE : Hid (lval ys / 2 ^ (blen (lval ys) - 1) = 1) := by
      show _ = _
      have h1 := blen_ge h0
      have h2 := blen_lt (lval ys)
      have h3 := blen_pos h0
      rw [show 2 ^ blen (lval ys) = 2 ^ (blen (lval ys) - 1) * 2 by rw [← Nat.pow_succ]; congr 1; omega] at h2
      have hq : 0 < 2 ^ (blen (lval ys) - 1) := Nat.pow_pos (by decide)
      have e1 : lval ys / 2 ^ (blen (lval ys) - 1) < 2 := (Nat.div_lt_iff_lt_mul hq).2 (by omega)
      have e2 : 0 < lval ys / 2 ^ (blen (lval ys) - 1) := Nat.div_pos h1 hq
      omega
    have HBIT : Hid (∀ k, k < 256 → lval ys / 2 ^ k % 2 = ys.getD (k / 64) 0 / 2 ^ (k % 64) % 2) := by
      intro k hk
      rw [lval_bit hLy (by omega), getD_get (by omega)]
    have HX : Hid (lval xs < 18446744073709551616 ^ 4) := by have := lval_lt hLx; rw [hx] at this; exact this
    have HXL := hid (nl_all hLx hx)
    have HLY := hid hLy
    clear hLx hLy hn hb hbn ht
    have HTL := hid htl
    clear htl
    generalize blen (ys.getD (nlb (lval ys) - 1) 0) = bl at *
    generalize ys.getD (nlb (lval ys) - 1) 0 = top at *
    generalize blen (lval ys) - 1 = last at *
    clear h0
    generalize nlb (lval ys) = n at *
    generalize lval ys = Y at *
    generalize lval xs = X at *
    have HPO := hid hpos
    clear hpos
    have dn : ((n : Int) == 0) = false := by rw [beq_eq_false_iff_ne]; omega
    go_enter Salg.func47, Salg.ntmps47
    go_wp2_with (first
      | ((with_reducible apply L_box (d := 2) M); rfl; clear M; intro c1 w1 hc1 M; simp only [Act.put, List.setIfInBounds_toArray, List.set_cons_zero, List.set_cons_succ])
      | ((with_reducible apply L_box (d := 3) M); rfl; clear M; intro c2 w1 hc2 M; simp only [Act.put, List.setIfInBounds_toArray, List.set_cons_zero, List.set_cons_succ])
      | ((with_reducible apply L_allocA (d := 4) M); exact zero25; clear M; intro c3 w1 hc3 M; simp only [Act.put, List.setIfInBounds_toArray, List.set_cons_zero, List.set_cons_succ])
      | ((with_reducible apply L_allocA (d := 5) M); exact zero25; clear M; intro c4 w1 hc4 M; simp only [Act.put, List.setIfInBounds_toArray, List.set_cons_zero, List.set_cons_succ])
      | ((with_reducible apply W_storeK (b := c4) (vs := (([1, 0, 0, 0] : List Nat).map n64).toArray)); rfl; rfl; exact M.r0; exact size25; (first | rfl | simp []); exact one64 _; intro w3 K hr3; replace M := Mem.callPut (L1 := []) M (Or.inr (by assumption)) K hr3; clear K hr3; simp only [List.cons_append, List.nil_append] at M)
      | ((with_reducible apply W_loadAll); rfl; (first | with_reducible exact M.r0 | with_reducible exact M.r1 | with_reducible exact M.r2 | with_reducible exact M.r3 | with_reducible exact M.r4 | with_reducible exact M.r5 | with_reducible exact M.r6 | assumption | exact M.kept.row (by assumption) (by simp)); exact Salg.underlying25; rfl; (first | with_reducible exact size25 | (rw [size25]; simp [hy])); simp only [Act.put, List.setIfInBounds_toArray, List.set_cons_zero, List.set_cons_succ]))
    refine (HLM.out _).mono ?_
    rintro e w2 ⟨rfl, K⟩
    replace M := M.call K
    clear K HLM
    go_wp2_with ((with_reducible apply W_loadCell); rfl; (first | with_reducible exact M.r0 | with_reducible exact M.r1 | with_reducible exact M.r2 | with_reducible exact M.r3 | with_reducible exact M.r4 | with_reducible exact M.r5 | with_reducible exact M.r6 | assumption | exact M.kept.row (by assumption) (by simp)); (first | exact get_map (by assumption) | exact get_map rfl | rfl); exact Salg.underlying23; rfl; simp only [Act.put, List.setIfInBounds_toArray, List.set_cons_zero, List.set_cons_succ])
    refine (HC.out _).mono ?_
    rintro e w3 ⟨rfl, rfl⟩
    clear HC
    go_wp2_with fail
    have hla2 : 64 * (n - 1) + bl - 1 = last := HLA.out.symm
    have hle : (64 * ((n : Int) - 1) + (bl : Int) - 1) = ((last : Nat) : Int) := by omega
    rw [hle]
    clear hle hla2 HLA dn hg
    go_loopw [8] (fun iv wr => ∃ k P A : Nat, k ≤ last ∧ iv = .int .i64 k ∧ P < 18446744073709551616 ^ 4 ∧ A < 18446744073709551616 ^ 4 ∧ (P * A ^ (Y / 2 ^ k)) % 18446744073709551616 ^ 4 = expN X Y ∧ Mem w [] [(c4, R64 25 (nl 4 P)), (c3, R64 25 (List.replicate 4 0)), (c2, R64 25 ys), (c1, R64 25 (nl 4 A))] wr) (fun iv _ => (last - intOf iv).toNat)
    case atStart => exact ⟨0, 1, X, by omega, rfl, by decide, HX.out, by rw [Nat.one_mul, Nat.pow_zero, Nat.div_one]; rfl, by rw [HXL.out]; exact M⟩
    case round =>
      clear M
      obtain ⟨k, P, A, hk, rfl, hP, hA, hI, M⟩ := hrel
      have HI := hid hI
      clear hI
      have hlA := nl_length 4 A
      have hlP := nl_length 4 P
      rcases Nat.lt_or_ge k last with hlt | hge
      · have hgk : ys[k / 64]? = some (ys.getD (k / 64) 0) := by rw [getD_get (by omega)]; exact List.getElem?_eq_getElem _
        have hyk : ys.getD (k / 64) 0 < 18446744073709551616 := by rw [getD_get (by omega)]; exact HLY.out.get _
        have hbt := HBIT.out k (by omega)
        have hhv := div_halves Y k
        have hpos := HPO.out
        rcases Nat.mod_two_eq_zero_or_one (Y / 2 ^ k) with ht | ht
        · have HST := hid (exp_step0 HI.out (show Y / 2 ^ k = 2 * (Y / 2 ^ (k + 1)) by omega))
          rw [ht] at hbt
          generalize ys.getD (k / 64) 0 = y at *
          have HB : Hid (bits .and .u64 ((y : Int) / 2 ^ (k % 64)) 1 = 0) := by show _ = _; rw [bit_and y (k % 64) hyk, ← hbt]; rfl
          clear hbt hhv ht
          go_upto_if 39 with ((with_reducible apply W_loadCell); rfl; (first | with_reducible exact M.r0 | with_reducible exact M.r1 | with_reducible exact M.r2 | with_reducible exact M.r3 | with_reducible exact M.r4 | with_reducible exact M.r5 | with_reducible exact M.r6 | assumption | exact M.kept.row (by assumption) (by simp)); (first | exact get_map (by assumption) | exact get_map rfl | rfl); exact Salg.underlying23; rfl; simp only [Act.put, List.setIfInBounds_toArray, List.set_cons_zero, List.set_cons_succ])
          rw [HB.out]
          go_wp2_with ((with_reducible apply W_loadAll); rfl; (first | with_reducible exact M.r0 | with_reducible exact M.r1 | with_reducible exact M.r2 | with_reducible exact M.r3 | with_reducible exact M.r4 | with_reducible exact M.r5 | with_reducible exact M.r6 | assumption | exact M.kept.row (by assumption) (by simp)); exact Salg.underlying25; rfl; (first | with_reducible exact size25 | (rw [size25]; simp [hlA])); simp only [Act.put, List.setIfInBounds_toArray, List.set_cons_zero, List.set_cons_succ])
          refine (wSquareN A _ hA).mono ?_
          rintro e w6 ⟨rfl, K⟩
          replace M := M.call K
          clear K
          have hA2 : A * A % 18446744073709551616 ^ 4 < 18446744073709551616 ^ 4 := Nat.mod_lt _ (by decide)
          have hlA2 := nl_length 4 (A * A % 18446744073709551616 ^ 4)
          have HI2 := hid (HST.out)
          go_wp2_with (first
            | ((with_reducible apply W_storeK (b := c1)); rfl; rfl; exact M.r3; exact size25; (first | rfl | simp [hlA2]); exact one64 _; intro w3 K hr3; replace M := Mem.callPut (L1 := [_, _, _]) M (Or.inr (by assumption)) K hr3; clear K hr3; simp only [List.cons_append, List.nil_append] at M)
            | ((with_reducible apply W_loadAll); rfl; (first | with_reducible exact M.r0 | with_reducible exact M.r1 | with_reducible exact M.r2 | with_reducible exact M.r3 | with_reducible exact M.r4 | with_reducible exact M.r5 | with_reducible exact M.r6 | assumption | exact M.kept.row (by assumption) (by simp)); exact Salg.underlying25; rfl; (first | with_reducible exact size25 | (rw [size25]; simp [hlA2])); simp only [Act.put, List.setIfInBounds_toArray, List.set_cons_zero, List.set_cons_succ]))
          refine (wIsZeroN (A * A % 18446744073709551616 ^ 4) _ hA2).mono ?_
          rintro e w7 ⟨rfl, K⟩
          replace M := M.call K
          clear K
          by_cases hz : A * A % 18446744073709551616 ^ 4 = 0
          · have dz : decide (A * A % 18446744073709551616 ^ 4 = 0) = true := decide_eq_true hz
            rw [dz]
            have HR : Hid (nl 4 (expN X Y) = [0, 0, 0, 0]) := by
              show _ = _
              rw [← HI2.out, hz, Nat.zero_pow (hpos (k + 1) (by omega)), Nat.mul_zero, Nat.zero_mod]
              rfl
            clear hz dz HI2
            go_wp2_with ((with_reducible apply W_storeK (b := c3) (vs := (([0, 0, 0, 0] : List Nat).map n64).toArray)); rfl; rfl; exact M.r1; exact size25; (first | rfl | simp []); exact one64 _; intro w3 K hr3; replace M := Mem.callPut (L1 := [_]) M (Or.inr (by assumption)) K hr3; clear K hr3; simp only [List.cons_append, List.nil_append] at M)
            exact ret_cell1 Salg.results47 rfl M.r1 Salg.underlying25 rfl size25 rfl ⟨by rw [HR.out], M.kept⟩
          · have dz : decide (A * A % 18446744073709551616 ^ 4 = 0) = false := decide_eq_false hz
            rw [dz]
            clear hz dz
            go_wp2_with fail
            go_roundw
            case rel => exact ⟨k + 1, P, A * A % 18446744073709551616 ^ 4, by omega, by go_num, by first | exact hP | exact Nat.mod_lt _ (by decide), hA2, HI2.out, M⟩
            case measure => simp [intOf]; omega
        · have HST := hid (exp_step1 HI.out (show Y / 2 ^ k = 2 * (Y / 2 ^ (k + 1)) + 1 by omega))
          rw [ht] at hbt
          generalize ys.getD (k / 64) 0 = y at *
          have HB : Hid (bits .and .u64 ((y : Int) / 2 ^ (k % 64)) 1 = 1) := by show _ = _; rw [bit_and y (k % 64) hyk, ← hbt]; rfl
          clear hbt hhv ht
          go_upto_if 39 with ((with_reducible apply W_loadCell); rfl; (first | with_reducible exact M.r0 | with_reducible exact M.r1 | with_reducible exact M.r2 | with_reducible exact M.r3 | with_reducible exact M.r4 | with_reducible exact M.r5 | with_reducible exact M.r6 | assumption | exact M.kept.row (by assumption) (by simp)); (first | exact get_map (by assumption) | exact get_map rfl | rfl); exact Salg.underlying23; rfl; simp only [Act.put, List.setIfInBounds_toArray, List.set_cons_zero, List.set_cons_succ])
          rw [HB.out]
          go_wp2_with ((with_reducible apply W_loadAll); rfl; (first | with_reducible exact M.r0 | with_reducible exact M.r1 | with_reducible exact M.r2 | with_reducible exact M.r3 | with_reducible exact M.r4 | with_reducible exact M.r5 | with_reducible exact M.r6 | assumption | exact M.kept.row (by assumption) (by simp)); exact Salg.underlying25; rfl; (first | with_reducible exact size25 | (rw [size25]; simp [hlA, hlP])); simp only [Act.put, List.setIfInBounds_toArray, List.set_cons_zero, List.set_cons_succ])
          refine (wMulN P A _ hP hA).mono ?_
          rintro e w5 ⟨rfl, K⟩
          replace M := M.call K
          clear K
          have hlP2 := nl_length 4 (P * A % 18446744073709551616 ^ 4)
          go_wp2_with (first
            | ((with_reducible apply W_storeK (b := c4)); rfl; rfl; exact M.r0; exact size25; (first | rfl | simp [hlP2]); exact one64 _; intro w3 K hr3; replace M := Mem.callPut (L1 := []) M (Or.inr (by assumption)) K hr3; clear K hr3; simp only [List.cons_append, List.nil_append] at M)
            | ((with_reducible apply W_loadAll); rfl; (first | with_reducible exact M.r0 | with_reducible exact M.r1 | with_reducible exact M.r2 | with_reducible exact M.r3 | with_reducible exact M.r4 | with_reducible exact M.r5 | with_reducible exact M.r6 | assumption | exact M.kept.row (by assumption) (by simp)); exact Salg.underlying25; rfl; (first | with_reducible exact size25 | (rw [size25]; simp [hlA])); simp only [Act.put, List.setIfInBounds_toArray, List.set_cons_zero, List.set_cons_succ]))
          refine (wSquareN A _ hA).mono ?_
          rintro e w6 ⟨rfl, K⟩
          replace M := M.call K
          clear K
          have hA2 : A * A % 18446744073709551616 ^ 4 < 18446744073709551616 ^ 4 := Nat.mod_lt _ (by decide)
          have hlA2 := nl_length 4 (A * A % 18446744073709551616 ^ 4)
          have HI2 := hid (HST.out)
          go_wp2_with (first
            | ((with_reducible apply W_storeK (b := c1)); rfl; rfl; exact M.r3; exact size25; (first | rfl | simp [hlA2]); exact one64 _; intro w3 K hr3; replace M := Mem.callPut (L1 := [_, _, _]) M (Or.inr (by assumption)) K hr3; clear K hr3; simp only [List.cons_append, List.nil_append] at M)
            | ((with_reducible apply W_loadAll); rfl; (first | with_reducible exact M.r0 | with_reducible exact M.r1 | with_reducible exact M.r2 | with_reducible exact M.r3 | with_reducible exact M.r4 | with_reducible exact M.r5 | with_reducible exact M.r6 | assumption | exact M.kept.row (by assumption) (by simp)); exact Salg.underlying25; rfl; (first | with_reducible exact size25 | (rw [size25]; simp [hlA2])); simp only [Act.put, List.setIfInBounds_toArray, List.set_cons_zero, List.set_cons_succ]))
          refine (wIsZeroN (A * A % 18446744073709551616 ^ 4) _ hA2).mono ?_
          rintro e w7 ⟨rfl, K⟩
          replace M := M.call K
          clear K
          by_cases hz : A * A % 18446744073709551616 ^ 4 = 0
          · have dz : decide (A * A % 18446744073709551616 ^ 4 = 0) = true := decide_eq_true hz
            rw [dz]
            have HR : Hid (nl 4 (expN X Y) = [0, 0, 0, 0]) := by
              show _ = _
              rw [← HI2.out, hz, Nat.zero_pow (hpos (k + 1) (by omega)), Nat.mul_zero, Nat.zero_mod]
              rfl
            clear hz dz HI2
            go_wp2_with ((with_reducible apply W_storeK (b := c3) (vs := (([0, 0, 0, 0] : List Nat).map n64).toArray)); rfl; rfl; exact M.r1; exact size25; (first | rfl | simp []); exact one64 _; intro w3 K hr3; replace M := Mem.callPut (L1 := [_]) M (Or.inr (by assumption)) K hr3; clear K hr3; simp only [List.cons_append, List.nil_append] at M)
            exact ret_cell1 Salg.results47 rfl M.r1 Salg.underlying25 rfl size25 rfl ⟨by rw [HR.out], M.kept⟩
          · have dz : decide (A * A % 18446744073709551616 ^ 4 = 0) = false := decide_eq_false hz
            rw [dz]
            clear hz dz
            go_wp2_with fail
            go_roundw
            case rel => exact ⟨k + 1, P * A % 18446744073709551616 ^ 4, A * A % 18446744073709551616 ^ 4, by omega, by go_num, by first | exact hP | exact Nat.mod_lt _ (by decide), hA2, HI2.out, M⟩
            case measure => simp [intOf]; omega
      · have hkl : k = last := by omega
        subst hkl
        have HR : Hid (nl 4 (expN X Y) = nl 4 (P * A % 18446744073709551616 ^ 4)) := by
          show _ = _
          rw [← HI.out, HONE.out, Nat.pow_one]
        go_wp2_with ((with_reducible apply W_loadAll); rfl; (first | with_reducible exact M.r0 | with_reducible exact M.r1 | with_reducible exact M.r2 | with_reducible exact M.r3 | with_reducible exact M.r4 | with_reducible exact M.r5 | with_reducible exact M.r6 | assumption | exact M.kept.row (by assumption) (by simp)); exact Salg.underlying25; rfl; (first | with_reducible exact size25 | (rw [size25]; simp [hlA, hlP])); simp only [Act.put, List.setIfInBounds_toArray, List.set_cons_zero, List.set_cons_succ])
        refine (wMulN P A _ hP hA).mono ?_
        rintro e w5 ⟨rfl, K⟩
        replace M := M.call K
        clear K
        have hlP2 := nl_length 4 (P * A % 18446744073709551616 ^ 4)
        go_wp2_with ((with_reducible apply W_storeK (b := c3)); rfl; rfl; exact M.r1; exact size25; (first | rfl | simp [hlP2]); exact one64 _; intro w3 K hr3; replace M := Mem.callPut (L1 := [_]) M (Or.inr (by assumption)) K hr3; clear K hr3; simp only [List.cons_append, List.nil_append] at M)
        exact ret_cell1 Salg.results47 rfl M.r1 Salg.underlying25 rfl (by rw [size25]; simp [hlP2]) rfl ⟨by rw [HR.out], M.kept⟩
end Go.Proofs.YgcsalGreat

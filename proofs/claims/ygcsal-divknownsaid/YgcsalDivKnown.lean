/-
  law.DivKnown: the walk.
-/
import Derived.Test.YgcsalIsNat
import Derived.Test.YgcsalTrialN
set_option linter.unusedSimpArgs false
namespace Go.Proofs.Ygcsal
open Go.RowKit Go.Own

theorem lim4 {a b c d : Nat} (ha : a < 18446744073709551616) (hb : b < 18446744073709551616) (hc : c < 18446744073709551616) (hd : d < 18446744073709551616) : Limbs [a, b, c, d] := by
  intro x hx; simp at hx; omega

set_option maxHeartbeats 4000000 in
set_option maxRecDepth 100000 in
theorem divKnown_any (w : World) : Calls Salg.prog 9 #[] w fun e w' => e = .returned (.bool true) ∧ Kept [] w w' := by
  have M := Mem.start w []
  have HD1 : Hid (∀ w, Calls Salg.prog 21 #[A64 [0, 0, 9223372036854775808, 1], A64 [18446744073709551615, 0, 1, 0]] w fun e w' =>
      e = .returned (.tuple #[A64 (nl 4 (9415652603080021145753684134811499624153533166696051769344 / 340282366920938463481821351505477763071)), A64 (nl 4 (9415652603080021145753684134811499624153533166696051769344 % 340282366920938463481821351505477763071)), A8 [2, 1, 0]]) ∧ Kept [] w w') := fun w => by
    have h := divRem_any [0, 0, 9223372036854775808, 1] [18446744073709551615, 0, 1, 0] w rfl rfl (lim4 (by decide) (by decide) (by decide) (by decide)) (lim4 (by decide) (by decide) (by decide) (by decide))
    rw [show pathL (lval [0, 0, 9223372036854775808, 1]) (lval [18446744073709551615, 0, 1, 0]) = [2, 1, 0] from by decide +kernel] at h
    exact h
  have HD2 : Hid (∀ w, Calls Salg.prog 21 #[A64 [3, 0, 9223372036854775808, 0], A64 [1, 0, 2305843009213693952, 0]] w fun e w' =>
      e = .returned (.tuple #[A64 [3, 0, 0, 0], A64 [0, 0, 2305843009213693952, 0], A8 [1, 0, 1]]) ∧ Kept [] w w') := fun w => by
    have h := divRem_any [3, 0, 9223372036854775808, 0] [1, 0, 2305843009213693952, 0] w rfl rfl (lim4 (by decide) (by decide) (by decide) (by decide)) (lim4 (by decide) (by decide) (by decide) (by decide))
    rw [show pathL (lval [3, 0, 9223372036854775808, 0]) (lval [1, 0, 2305843009213693952, 0]) = [1, 0, 1] from by decide +kernel,
      show nl 4 (lval [3, 0, 9223372036854775808, 0] / lval [1, 0, 2305843009213693952, 0]) = [3, 0, 0, 0] from by decide +kernel,
      show nl 4 (remN (lval [3, 0, 9223372036854775808, 0]) (lval [1, 0, 2305843009213693952, 0])) = [0, 0, 2305843009213693952, 0] from by decide +kernel] at h
    exact h
  have HD3 : Hid (∀ w, Calls Salg.prog 21 #[A64 [0, 0, 9223372036854775808, 0], A64 [18446744073709551615, 9223372036854775808, 0, 0]] w fun e w' =>
      e = .returned (.tuple #[A64 [18446744073709551614, 0, 0, 0], A64 [18446744073709551614, 2, 0, 0], A8 [2, 2, 0]]) ∧ Kept [] w w') := fun w => by
    have h := divRem_any [0, 0, 9223372036854775808, 0] [18446744073709551615, 9223372036854775808, 0, 0] w rfl rfl (lim4 (by decide) (by decide) (by decide) (by decide)) (lim4 (by decide) (by decide) (by decide) (by decide))
    rw [show pathL (lval [0, 0, 9223372036854775808, 0]) (lval [18446744073709551615, 9223372036854775808, 0, 0]) = [2, 2, 0] from by decide +kernel,
      show nl 4 (lval [0, 0, 9223372036854775808, 0] / lval [18446744073709551615, 9223372036854775808, 0, 0]) = [18446744073709551614, 0, 0, 0] from by decide +kernel,
      show nl 4 (remN (lval [0, 0, 9223372036854775808, 0]) (lval [18446744073709551615, 9223372036854775808, 0, 0])) = [18446744073709551614, 2, 0, 0] from by decide +kernel] at h
    exact h
  obtain ⟨q1, hq1⟩ : ∃ x, Hid (x = nl 4 (9415652603080021145753684134811499624153533166696051769344 / 340282366920938463481821351505477763071)) := ⟨_, rfl⟩
  obtain ⟨r1, hr1⟩ : ∃ x, Hid (x = nl 4 (9415652603080021145753684134811499624153533166696051769344 % 340282366920938463481821351505477763071)) := ⟨_, rfl⟩
  rw [← hq1.out, ← hr1.out] at HD1
  have HQV : Hid (lval q1 = 9415652603080021145753684134811499624153533166696051769344 / 340282366920938463481821351505477763071) := by show _ = _; rw [hq1.out]; decide +kernel
  have HRV : Hid (lval r1 = 9415652603080021145753684134811499624153533166696051769344 % 340282366920938463481821351505477763071) := by show _ = _; rw [hr1.out]; decide +kernel
  have HQL : Hid (Limbs q1) := by rw [hq1.out]; exact nl_limbs _ _
  have HRL : Hid (Limbs r1) := by rw [hr1.out]; exact nl_limbs _ _
  have hql : q1.length = 4 := by rw [hq1.out]; exact nl_length _ _
  have hrl : r1.length = 4 := by rw [hr1.out]; exact nl_length _ _
  clear hq1 hr1
  go_enter Salg.func9, Salg.ntmps9
  go_wp2_with fail
  refine (HD1.out _).mono ?_
  rintro e w1 ⟨rfl, K⟩
  replace M := M.call K
  clear K HD1
  go_wp2_with (first
    | ((with_reducible apply L_allocA (d := 1) M); exact zero25; clear M; intro b1 w1 hb1 M; simp only [Act.put, List.setIfInBounds_toArray, List.set_cons_zero, List.set_cons_succ])
    | ((with_reducible apply L_allocA (d := 2) M); exact zero25; clear M; intro b2 w1 hb2 M; simp only [Act.put, List.setIfInBounds_toArray, List.set_cons_zero, List.set_cons_succ])
    | ((with_reducible apply L_allocA (d := 3) M); exact zero46; clear M; intro b3 w1 hb3 M; simp only [Act.put, List.setIfInBounds_toArray, List.set_cons_zero, List.set_cons_succ])
    | ((with_reducible apply W_storeK (b := b1)); rfl; rfl; exact M.r2; (first | exact size25 | (rw [size25]; simp [hql, hrl])); (first | rfl | simp [hql, hrl]); exact one64 _; intro w3 K hr3; replace M := Mem.callPut (L1 := [_, _]) M (Or.inr (by assumption)) K hr3; clear K hr3; simp only [List.cons_append, List.nil_append] at M)
    | ((with_reducible apply W_storeK (b := b2)); rfl; rfl; exact M.r1; (first | exact size25 | (rw [size25]; simp [hql, hrl])); (first | rfl | simp [hql, hrl]); exact one64 _; intro w3 K hr3; replace M := Mem.callPut (L1 := [_]) M (Or.inr (by assumption)) K hr3; clear K hr3; simp only [List.cons_append, List.nil_append] at M)
    | ((with_reducible apply W_storeK (b := b3)); rfl; rfl; exact M.r0; (first | exact size46 | (rw [size46]; simp [hql, hrl])); (first | rfl | simp [hql, hrl]); exact one8 _; intro w3 K hr3; replace M := Mem.callPut (L1 := []) M (Or.inr (by assumption)) K hr3; clear K hr3; simp only [List.cons_append, List.nil_append] at M))
  refine (pow2_int 192 (by decide) (by decide) _).mono ?_
  rintro e w2 ⟨P1, rfl, xHP1, K⟩
  have HP1 := hid xHP1
  replace M := M.call K
  clear K xHP1
  go_wp2_with fail
  refine (pow2_int 191 (by decide) (by decide) _).mono ?_
  rintro e w3 ⟨P2, rfl, xHP2, K⟩
  have HP2 := hid xHP2
  replace HP1 := hid (HP1.out.kept K)
  replace M := M.call K
  clear K xHP2
  go_wp2_with fail
  refine (add_num _ _ _ _ _ HP1.out HP2.out (by decide) (by decide)).mono ?_
  rintro e w4 ⟨X1, rfl, xHX1, K⟩
  have HX1 := hid xHX1
  replace M := M.call K
  clear K xHX1
  have HX : Hid (NumV w4 X1 9415652603080021145753684134811499624153533166696051769344) := HX1.out
  clear HX1 HP1 HP2
  go_wp2_with fail
  refine (pow2_int 128 (by decide) (by decide) _).mono ?_
  rintro e w5 ⟨P3, rfl, xHP3, K⟩
  have HP3 := hid xHP3
  replace HX := hid (HX.out.kept K)
  replace M := M.call K
  clear K xHP3
  go_wp2_with fail
  refine (pow2_int 64 (by decide) (by decide) _).mono ?_
  rintro e w6 ⟨P4, rfl, xHP4, K⟩
  have HP4 := hid xHP4
  replace HP3 := hid (HP3.out.kept K)
  replace HX := hid (HX.out.kept K)
  replace M := M.call K
  clear K xHP4
  go_wp2_with fail
  refine (add_num _ _ _ _ _ HP3.out HP4.out (by decide) (by decide)).mono ?_
  rintro e w7 ⟨Y0, rfl, xHY0, K⟩
  have HY0 := hid xHY0
  replace HX := hid (HX.out.kept K)
  replace M := M.call K
  clear K xHY0
  clear HP3 HP4
  go_wp2_with ((with_reducible apply W_build1 (d := 24) M); exact Salg.underlying58; exact size5; exact zero5s; clear M; intro b4 w8 hb4 K M; simp only [Act.put, List.setIfInBounds_toArray, List.set_cons_zero, List.set_cons_succ])
  replace HX := hid (HX.out.kept K)
  replace HY0 := hid (HY0.out.kept K)
  clear K
  refine (sub_num _ _ _ _ _ HY0.out (one_num M.r0) (by decide) (by decide)).mono ?_
  rintro e w9 ⟨Y1, rfl, xHY1, K⟩
  have HY1 := hid xHY1
  replace HX := hid (HX.out.kept K)
  replace M := M.call K
  clear K xHY1
  have HY : Hid (NumV w9 Y1 340282366920938463481821351505477763071) := HY1.out
  replace M := M.tail
  clear HY1 HY0
  go_wp2_with fail
  refine (divMod_num _ _ _ _ _ HX.out HY.out (by decide) (by decide) (by decide)).mono ?_
  rintro e w10 ⟨WQ, WR, rfl, xHWQ, xHWR, K⟩
  have HWQ := hid xHWQ
  have HWR := hid xHWR
  replace M := M.call K
  clear K xHWQ xHWR
  rw [← HQV.out] at HWQ
  rw [← HRV.out] at HWR
  clear HX HY
  go_wp2_with (first
    | ((with_reducible apply W_loadAll); rfl; (first | with_reducible exact M.r0 | with_reducible exact M.r1 | with_reducible exact M.r2 | with_reducible exact M.r3 | with_reducible exact M.r4 | with_reducible exact M.r5 | with_reducible exact M.r6 | assumption | exact M.kept.row (by assumption) (by simp)); exact Salg.underlying46; rfl; (first | with_reducible exact size46 | (rw [size46]; simp [])); simp only [Act.put, List.setIfInBounds_toArray, List.set_cons_zero, List.set_cons_succ])
    | ((with_reducible apply W_loadAllG); rfl; rfl; (first | with_reducible exact M.r2 | with_reducible exact M.r1); exact Salg.underlying25; rfl; (rw [size25]; simp [hql, hrl]); simp only [Act.put, List.setIfInBounds_toArray, List.set_cons_zero, List.set_cons_succ])
    | (go_at_call 34; refine (isNat_yes q1 _ _ hql HQL.out HWQ.out).mono ?_; rintro e w11 ⟨rfl, K⟩; replace M := M.call K; replace HWR := hid (HWR.out.kept K); clear K HWQ)
    | (go_at_call 34; refine (isNat_yes r1 _ _ hrl HRL.out HWR.out).mono ?_; rintro e w11 ⟨rfl, K⟩; replace M := M.call K; clear K HWR))
  refine (HD2.out _).mono ?_
  rintro e w12 ⟨rfl, K⟩
  replace M := M.call K
  clear K HD2
  go_wp2_with (first
    | ((with_reducible apply W_storeK (b := b1)); rfl; rfl; exact M.r2; (first | exact size25 | (rw [size25]; simp [hql, hrl])); (first | rfl | simp [hql, hrl]); exact one64 _; intro w3 K hr3; replace M := Mem.callPut (L1 := [_, _]) M (Or.inr (by assumption)) K hr3; clear K hr3; simp only [List.cons_append, List.nil_append] at M)
    | ((with_reducible apply W_storeK (b := b2)); rfl; rfl; exact M.r1; (first | exact size25 | (rw [size25]; simp [hql, hrl])); (first | rfl | simp [hql, hrl]); exact one64 _; intro w3 K hr3; replace M := Mem.callPut (L1 := [_]) M (Or.inr (by assumption)) K hr3; clear K hr3; simp only [List.cons_append, List.nil_append] at M)
    | ((with_reducible apply W_storeK (b := b3)); rfl; rfl; exact M.r0; (first | exact size46 | (rw [size46]; simp [hql, hrl])); (first | rfl | simp [hql, hrl]); exact one8 _; intro w3 K hr3; replace M := Mem.callPut (L1 := []) M (Or.inr (by assumption)) K hr3; clear K hr3; simp only [List.cons_append, List.nil_append] at M)
    | ((with_reducible apply W_loadAll); rfl; (first | with_reducible exact M.r0 | with_reducible exact M.r1 | with_reducible exact M.r2 | with_reducible exact M.r3 | with_reducible exact M.r4 | with_reducible exact M.r5 | with_reducible exact M.r6 | assumption | exact M.kept.row (by assumption) (by simp)); exact Salg.underlying46; rfl; (first | with_reducible exact size46 | (rw [size46]; simp [])); simp only [Act.put, List.setIfInBounds_toArray, List.set_cons_zero, List.set_cons_succ])
    | ((with_reducible apply W_loadAllG); rfl; rfl; (first | with_reducible exact M.r0 | with_reducible exact M.r1 | with_reducible exact M.r2 | with_reducible exact M.r3 | with_reducible exact M.r4 | with_reducible exact M.r5 | with_reducible exact M.r6 | assumption | exact M.kept.row (by assumption) (by simp)); exact Salg.underlying25; rfl; (first | with_reducible exact size25 | (rw [size25]; simp [])); simp only [Act.put, List.setIfInBounds_toArray, List.set_cons_zero, List.set_cons_succ])
    | ((with_reducible apply L_runG); rfl; exact run_neq64 (l := [3, 0, 0, 0]) (l' := [3, 0, 0, 0]) rfl rfl Salg.underlying25 Salg.underlying23 size23 guard25 rfl rfl; simp only [decide_true, Bool.not_true]; simp only [Act.put, List.setIfInBounds_toArray, List.set_cons_zero, List.set_cons_succ])
    | ((with_reducible apply L_runG); rfl; exact run_neq64 (l := [0, 0, 2305843009213693952, 0]) (l' := [0, 0, 2305843009213693952, 0]) rfl rfl Salg.underlying25 Salg.underlying23 size23 guard25 rfl rfl; simp only [decide_true, Bool.not_true]; simp only [Act.put, List.setIfInBounds_toArray, List.set_cons_zero, List.set_cons_succ]))
  refine (HD3.out _).mono ?_
  rintro e w13 ⟨rfl, K⟩
  replace M := M.call K
  clear K HD3
  go_wp2_with (first
    | ((with_reducible apply W_storeK (b := b1)); rfl; rfl; exact M.r2; (first | exact size25 | (rw [size25]; simp [hql, hrl])); (first | rfl | simp [hql, hrl]); exact one64 _; intro w3 K hr3; replace M := Mem.callPut (L1 := [_, _]) M (Or.inr (by assumption)) K hr3; clear K hr3; simp only [List.cons_append, List.nil_append] at M)
    | ((with_reducible apply W_storeK (b := b2)); rfl; rfl; exact M.r1; (first | exact size25 | (rw [size25]; simp [hql, hrl])); (first | rfl | simp [hql, hrl]); exact one64 _; intro w3 K hr3; replace M := Mem.callPut (L1 := [_]) M (Or.inr (by assumption)) K hr3; clear K hr3; simp only [List.cons_append, List.nil_append] at M)
    | ((with_reducible apply W_storeK (b := b3)); rfl; rfl; exact M.r0; (first | exact size46 | (rw [size46]; simp [hql, hrl])); (first | rfl | simp [hql, hrl]); exact one8 _; intro w3 K hr3; replace M := Mem.callPut (L1 := []) M (Or.inr (by assumption)) K hr3; clear K hr3; simp only [List.cons_append, List.nil_append] at M)
    | ((with_reducible apply W_loadAll); rfl; (first | with_reducible exact M.r0 | with_reducible exact M.r1 | with_reducible exact M.r2 | with_reducible exact M.r3 | with_reducible exact M.r4 | with_reducible exact M.r5 | with_reducible exact M.r6 | assumption | exact M.kept.row (by assumption) (by simp)); exact Salg.underlying46; rfl; (first | with_reducible exact size46 | (rw [size46]; simp [])); simp only [Act.put, List.setIfInBounds_toArray, List.set_cons_zero, List.set_cons_succ])
    | ((with_reducible apply W_loadAll); rfl; (first | with_reducible exact M.r0 | with_reducible exact M.r1 | with_reducible exact M.r2 | with_reducible exact M.r3 | with_reducible exact M.r4 | with_reducible exact M.r5 | with_reducible exact M.r6 | assumption | exact M.kept.row (by assumption) (by simp)); exact Salg.underlying25; rfl; (first | with_reducible exact size25 | (rw [size25]; simp [])); simp only [Act.put, List.setIfInBounds_toArray, List.set_cons_zero, List.set_cons_succ]))
  refine (knownThird_any _).mono ?_
  rintro e w14 ⟨rfl, K⟩
  replace M := M.call K
  clear K
  go_wp2_with fail
  go_ret
  exact ⟨rfl, M.kept⟩
end Go.Proofs.Ygcsal

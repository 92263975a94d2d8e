/-
  The walk of law.oversHold.
-/
import Derived.Test.YgcsalGreatSizes
import Derived.Test.YgcsalGreatWrap
import Derived.Test.YgcsalGreatAlu11
set_option linter.unusedSimpArgs false
set_option linter.unusedVariables false
namespace Go.Proofs.YgcsalGreat
open Go.RowKit Go.Own

set_option maxHeartbeats 2000000 in
set_option maxRecDepth 100000 in
theorem oversHold_yes (ba bb : List Nat) (w : World) (ha : ba.length = 32) (hb : bb.length = 32) (hsa : Small ba) (hsb : Small bb) : Calls Salg.prog 11 #[A8 ba, A8 bb] w fun e w' => e = .returned (.bool true) ∧ Kept [] w w' := by
  have M := Mem.start w []
  have HA := hid (fun b w => fromBE32 b ba ha hsa w)
  have HB := hid (fun b w => fromBE32 b bb hb hsb w)
  have HBX := hid (fun w => fromBytes_any ba w ha hsa)
  have HBY := hid (fun w => fromBytes_any bb w hb hsb)
  have hxl : (limbs4 ba).length = 4 := rfl
  have hyl : (limbs4 bb).length = 4 := rfl
  have hLx := limbs4_limbs ba hsa
  have hLy := limbs4_limbs bb hsb
  have hlx := be_limbs4 ha
  have hly := be_limbs4 hb
  have HAO := hid (fun w => wAddOver (limbs4 ba) (limbs4 bb) w hxl hyl hLx hLy)
  have HMO := hid (fun w => wMulOver (limbs4 ba) (limbs4 bb) w hxl hyl hLx hLy)
  have HSU := hid (fun w => wSubUnder (limbs4 ba) (limbs4 bb) w hxl hyl hLx hLy)
  rw [hlx, hly] at HAO HMO HSU
  have hA := be_lt ha hsa
  have hB := be_lt hb hsb
  have hS1 : be ba + be bb < 256 ^ 200 := Nat.lt_of_lt_of_le (Nat.add_lt_add hA hB) (by decide)
  have hS2 : be ba * be bb < 256 ^ 200 := Nat.lt_of_lt_of_le (Nat.mul_lt_mul'' hA hB) (by decide)
  have HSUM := hid (fun v w h => wrapHolds_yes v (be ba + be bb) (nl 4 (be ba + be bb)) (decide (18446744073709551616 ^ 4 ≤ be ba + be bb)) w h hS1 (nl_length _ _) (nl_limbs _ _) (by rw [nl_lval, p256]) (by rw [p256]))
  have HPRO := hid (fun v w h => wrapHolds_yes v (be ba * be bb) (nl 4 (be ba * be bb)) (decide (18446744073709551616 ^ 4 ≤ be ba * be bb)) w h hS2 (nl_length _ _) (nl_limbs _ _) (by rw [nl_lval, p256]) (by rw [p256]))
  have h1l := nl_length 4 (be ba + be bb)
  have h2l := nl_length 4 (be ba * be bb)
  have h3l := nl_length 4 (be ba + 18446744073709551616 ^ 4 - be bb)
  have HDE : Hid ((be ba + 2 ^ 256 + (2 ^ 256 - be bb)) % 2 ^ 256 = lval (nl 4 (be ba + 18446744073709551616 ^ 4 - be bb))) := by
    show _ = _
    rw [nl_lval, ← p256]
    generalize (2 : Nat) ^ 256 = M at *
    rw [show be ba + M + (M - be bb) = (be ba + M - be bb) + M by omega, Nat.add_mod_right]
  have HCP : Hid (decide (cmpI (be ba) (be bb) < 0) = decide (be ba < be bb)) := by
    show _ = _
    simp only [cmpI_neg]
  have HX2 := hid (lt200 hA)
  have HY2 := hid (lt200 hB)
  have HYL := hid (Nat.le_of_lt hB)
  have HT1 : Hid (be ba + 2 ^ 256 < 256 ^ 200) := Nat.lt_of_lt_of_le (Nat.add_lt_add_right hA _) (by decide)
  have HT2 : Hid (2 ^ 256 - be bb < 256 ^ 200) := Nat.lt_of_le_of_lt (Nat.sub_le _ _) (by decide)
  have HT3 : Hid (be ba + 2 ^ 256 + (2 ^ 256 - be bb) < 256 ^ 200) := Nat.lt_of_le_of_lt (Nat.add_le_add (Nat.add_le_add_right (Nat.le_of_lt hA) _) (Nat.sub_le _ _)) (by decide)
  have HL3 := hid (nl_limbs 4 (be ba + 18446744073709551616 ^ 4 - be bb))
  clear hLx hLy hlx hly hsa hsb hA hB hS1 hS2
  generalize nl 4 (be ba + be bb) = s4 at *
  generalize nl 4 (be ba * be bb) = p4 at *
  generalize nl 4 (be ba + 18446744073709551616 ^ 4 - be bb) = d4 at *
  generalize limbs4 ba = xl at *
  generalize limbs4 bb = yl at *
  generalize decide (18446744073709551616 ^ 4 ≤ be ba + be bb) = t1 at *
  generalize decide (18446744073709551616 ^ 4 ≤ be ba * be bb) = t2 at *
  generalize decide (be ba < be bb) = t3 at *
  go_enter Salg.func11, Salg.ntmps11
  go_wp2_with (first
    | ((with_reducible apply L_box (d := 2) M); rfl; clear M; intro c1 w1 hc1 M; simp only [Act.put, List.setIfInBounds_toArray, List.set_cons_zero, List.set_cons_succ])
    | ((with_reducible apply L_box (d := 3) M); rfl; clear M; intro c2 w1 hc2 M; simp only [Act.put, List.setIfInBounds_toArray, List.set_cons_zero, List.set_cons_succ])
    | ((with_reducible apply W_loadAll); rfl; (first | with_reducible exact M.r0 | with_reducible exact M.r1 | with_reducible exact M.r2 | with_reducible exact M.r3 | with_reducible exact M.r4 | with_reducible exact M.r5 | with_reducible exact M.r6 | assumption | exact M.kept.row (by assumption) (by simp)); exact Salg.underlying22; rfl; (first | with_reducible exact size22 | (rw [size22]; simp [ha, hb])); simp only [Act.put, List.setIfInBounds_toArray, List.set_cons_zero, List.set_cons_succ]))
  refine (HBX.out _).mono ?_
  rintro e w2 ⟨rfl, K⟩
  replace M := M.call K
  clear K
  go_wp2_with (first
    | ((with_reducible apply L_allocA (d := 5) M); exact zero25; clear M; intro c3 w1 hc3 M; simp only [Act.put, List.setIfInBounds_toArray, List.set_cons_zero, List.set_cons_succ])
    | ((with_reducible apply W_storeK (b := c3)); rfl; rfl; exact M.r0; exact size25; (first | rfl | simp [hxl]); exact one64 _; intro w3 K hr3; replace M := Mem.callPut (L1 := []) M (Or.inr (by assumption)) K hr3; clear K hr3; simp only [List.cons_append, List.nil_append] at M)
    | ((with_reducible apply W_loadAll); rfl; (first | with_reducible exact M.r0 | with_reducible exact M.r1 | with_reducible exact M.r2 | with_reducible exact M.r3 | with_reducible exact M.r4 | with_reducible exact M.r5 | with_reducible exact M.r6 | assumption | exact M.kept.row (by assumption) (by simp)); exact Salg.underlying22; rfl; (first | with_reducible exact size22 | (rw [size22]; simp [ha, hb])); simp only [Act.put, List.setIfInBounds_toArray, List.set_cons_zero, List.set_cons_succ]))
  refine (HBY.out _).mono ?_
  rintro e w3 ⟨rfl, K⟩
  replace M := M.call K
  clear K
  go_wp2_with (first
    | ((with_reducible apply L_allocA (d := 6) M); exact zero25; clear M; intro c4 w1 hc4 M; simp only [Act.put, List.setIfInBounds_toArray, List.set_cons_zero, List.set_cons_succ])
    | ((with_reducible apply W_storeK (b := c4)); rfl; rfl; exact M.r0; exact size25; (first | rfl | simp [hyl]); exact one64 _; intro w3 K hr3; replace M := Mem.callPut (L1 := []) M (Or.inr (by assumption)) K hr3; clear K hr3; simp only [List.cons_append, List.nil_append] at M)
    | ((with_reducible apply W_sliceArr (l := 0) (h := 32) (m := 32)); rfl; exact Salg.underlying22; exact size5; (first | exact Or.inl ⟨rfl, rfl⟩ | exact Or.inr ⟨_, _, _, rfl, rfl, by omega⟩); (first | exact Or.inl ⟨rfl, rfl⟩ | exact Or.inr ⟨_, _, _, rfl, rfl, by omega⟩); (first | exact Or.inl ⟨rfl, rfl⟩ | exact Or.inr ⟨_, _, _, rfl, rfl, by omega⟩); (first | exact Or.inl rfl | exact Or.inr rfl); omega; omega; omega; omega; (try simp only [Nat.zero_add, Nat.sub_zero]); simp only [Act.put, List.setIfInBounds_toArray, List.set_cons_zero, List.set_cons_succ]))
  refine (HA.out _ _ M.r3).mono ?_
  rintro e w4 ⟨N1, rfl, xN1, K⟩
  replace M := M.call K
  have HN1 := hid xN1
  clear xN1
  clear K
  go_wp2_with ((with_reducible apply W_sliceArr (l := 0) (h := 32) (m := 32)); rfl; exact Salg.underlying22; exact size5; (first | exact Or.inl ⟨rfl, rfl⟩ | exact Or.inr ⟨_, _, _, rfl, rfl, by omega⟩); (first | exact Or.inl ⟨rfl, rfl⟩ | exact Or.inr ⟨_, _, _, rfl, rfl, by omega⟩); (first | exact Or.inl ⟨rfl, rfl⟩ | exact Or.inr ⟨_, _, _, rfl, rfl, by omega⟩); (first | exact Or.inl rfl | exact Or.inr rfl); omega; omega; omega; omega; (try simp only [Nat.zero_add, Nat.sub_zero]); simp only [Act.put, List.setIfInBounds_toArray, List.set_cons_zero, List.set_cons_succ])
  refine (HB.out _ _ M.r2).mono ?_
  rintro e w5 ⟨N2, rfl, xN2, K⟩
  replace M := M.call K
  have HN2 := hid xN2
  clear xN2
  replace HN1 := hid (HN1.out.kept K)
  clear K
  clear HA HB HBX HBY
  go_wp2_with ((with_reducible apply W_loadAll); rfl; (first | with_reducible exact M.r0 | with_reducible exact M.r1 | with_reducible exact M.r2 | with_reducible exact M.r3 | with_reducible exact M.r4 | with_reducible exact M.r5 | with_reducible exact M.r6 | assumption | exact M.kept.row (by assumption) (by simp)); exact Salg.underlying25; rfl; (first | with_reducible exact size25 | (rw [size25]; simp [hxl, hyl])); simp only [Act.put, List.setIfInBounds_toArray, List.set_cons_zero, List.set_cons_succ])
  refine (HAO.out _).mono ?_
  rintro e w6 ⟨rfl, K⟩
  replace M := M.call K
  replace HN1 := hid (HN1.out.kept K)
  replace HN2 := hid (HN2.out.kept K)
  clear K
  clear HAO
  have K6 := hid M.kept
  replace M : Mem w6 [] _ w6 := ⟨Kept.refl _ _, M.rows, M.apart⟩
  go_wp2_with (first
    | ((with_reducible apply L_allocA (d := 9) M); exact zero25; clear M; intro c5 w1 hc5 M; simp only [Act.put, List.setIfInBounds_toArray, List.set_cons_zero, List.set_cons_succ])
    | ((with_reducible apply W_storeK (b := c5)); rfl; rfl; exact M.r0; exact size25; (first | rfl | simp [h1l]); exact one64 _; intro w3 K hr3; replace M := Mem.callPut (L1 := []) M (Or.inr (by assumption)) K hr3; clear K hr3; simp only [List.cons_append, List.nil_append] at M))
  refine S_region (by kernel_rfl) ?_
  replace M := M.drew
  refine C_region [0, 1, 3, 4, 2, 5, 6] (by kernel_rfl) M ?_
  simp only [List.filterMap_cons, List.filterMap_nil, List.getElem?_cons_zero, List.getElem?_cons_succ]
  ((with_reducible apply C_run); rfl; rfl; (intro w M; go_simp; (try go_ints); (try simp only [↓IntWalk.iteOmega]); (try with_reducible rfl)); simp only [Act.put, List.setIfInBounds_toArray, List.set_cons_zero, List.set_cons_succ])
  ((with_reducible apply C_run); rfl; rfl; (intro w M; go_simp; (try go_ints); (try simp only [↓IntWalk.iteOmega]); (try with_reducible rfl)); simp only [Act.put, List.setIfInBounds_toArray, List.set_cons_zero, List.set_cons_succ])
  ((with_reducible apply C_run); rfl; rfl; (intro w M; exact run_loadAll (by (first | with_reducible exact M.r0 | with_reducible exact M.r1 | with_reducible exact M.r2 | with_reducible exact M.r3 | with_reducible exact M.r4 | with_reducible exact M.r5 | with_reducible exact M.r6 | assumption | exact M.kept.row (by assumption) (by simp))) rfl Salg.underlying25 rfl (by first | with_reducible exact size25 | (rw [size25]; simp [h1l]))); simp only [Act.put, List.setIfInBounds_toArray, List.set_cons_zero, List.set_cons_succ])
  ((with_reducible apply C_run); rfl; rfl; (intro w M; go_simp; (try go_ints); (try simp only [↓IntWalk.iteOmega]); (try with_reducible rfl)); simp only [Act.put, List.setIfInBounds_toArray, List.set_cons_zero, List.set_cons_succ])
  refine C_call rfl Salg.func68 (by kernel_rfl) (by kernel_rfl) (args := [N1, N2]) rfl ?_
  refine (add_num _ _ _ _ _ (HN1.out.kept M.kept) (HN2.out.kept M.kept) HX2.out HY2.out).mono ?_
  rintro e w7 ⟨S1, rfl, xHS1, K⟩
  have HS1 := hid xHS1
  replace M := M.call K
  clear K xHS1
  refine ⟨_, rfl, M, ?_⟩
  simp only [Act.put, List.setIfInBounds_toArray, List.set_cons_zero, List.set_cons_succ]
  refine C_call rfl Salg.func67 (by kernel_rfl) (by kernel_rfl) (args := [S1, A64 s4, .bool t1]) rfl ?_
  refine (HSUM.out _ _ HS1.out).mono ?_
  rintro e w8 ⟨rfl, K⟩
  replace M := M.call K
  clear K
  refine ⟨_, rfl, M, ?_⟩
  simp only [Act.put, List.setIfInBounds_toArray, List.set_cons_zero, List.set_cons_succ]
  ((with_reducible apply C_run); rfl; rfl; (intro w M; go_simp; (try go_ints); (try simp only [↓IntWalk.iteOmega]); (try with_reducible rfl)); simp only [Act.put, List.setIfInBounds_toArray, List.set_cons_zero, List.set_cons_succ])
  refine C_nil ?_
  intro _
  clear HS1 HSUM
  go_wp2_with ((with_reducible apply W_loadAll); rfl; (first | with_reducible exact M.r0 | with_reducible exact M.r1 | with_reducible exact M.r2 | with_reducible exact M.r3 | with_reducible exact M.r4 | with_reducible exact M.r5 | with_reducible exact M.r6 | assumption | exact M.kept.row (by assumption) (by simp)); exact Salg.underlying25; rfl; (first | with_reducible exact size25 | (rw [size25]; simp [hxl, hyl])); simp only [Act.put, List.setIfInBounds_toArray, List.set_cons_zero, List.set_cons_succ])
  refine (HMO.out _).mono ?_
  rintro e w9 ⟨rfl, K⟩
  replace M := M.call K
  clear K
  clear HMO
  go_wp2_with (first
    | ((with_reducible apply L_allocA (d := 11) M); exact zero25; clear M; intro c6 w1 hc6 M; simp only [Act.put, List.setIfInBounds_toArray, List.set_cons_zero, List.set_cons_succ])
    | ((with_reducible apply W_storeK (b := c6)); rfl; rfl; exact M.r0; exact size25; (first | rfl | simp [h2l]); exact one64 _; intro w3 K hr3; replace M := Mem.callPut (L1 := []) M (Or.inr (by assumption)) K hr3; clear K hr3; simp only [List.cons_append, List.nil_append] at M))
  refine S_region (by kernel_rfl) ?_
  replace M := M.drew
  refine C_region [0, 1, 3, 4, 2, 5, 6] (by kernel_rfl) M ?_
  simp only [List.filterMap_cons, List.filterMap_nil, List.getElem?_cons_zero, List.getElem?_cons_succ]
  ((with_reducible apply C_run); rfl; rfl; (intro w M; go_simp; (try go_ints); (try simp only [↓IntWalk.iteOmega]); (try with_reducible rfl)); simp only [Act.put, List.setIfInBounds_toArray, List.set_cons_zero, List.set_cons_succ])
  ((with_reducible apply C_run); rfl; rfl; (intro w M; go_simp; (try go_ints); (try simp only [↓IntWalk.iteOmega]); (try with_reducible rfl)); simp only [Act.put, List.setIfInBounds_toArray, List.set_cons_zero, List.set_cons_succ])
  ((with_reducible apply C_run); rfl; rfl; (intro w M; exact run_loadAll (by (first | with_reducible exact M.r0 | with_reducible exact M.r1 | with_reducible exact M.r2 | with_reducible exact M.r3 | with_reducible exact M.r4 | with_reducible exact M.r5 | with_reducible exact M.r6 | assumption | exact M.kept.row (by assumption) (by simp))) rfl Salg.underlying25 rfl (by first | with_reducible exact size25 | (rw [size25]; simp [h2l]))); simp only [Act.put, List.setIfInBounds_toArray, List.set_cons_zero, List.set_cons_succ])
  ((with_reducible apply C_run); rfl; rfl; (intro w M; go_simp; (try go_ints); (try simp only [↓IntWalk.iteOmega]); (try with_reducible rfl)); simp only [Act.put, List.setIfInBounds_toArray, List.set_cons_zero, List.set_cons_succ])
  refine C_call rfl Salg.func70 (by kernel_rfl) (by kernel_rfl) (args := [N1, N2]) rfl ?_
  refine (mul_num _ _ _ _ _ (HN1.out.kept M.kept) (HN2.out.kept M.kept) HX2.out HY2.out).mono ?_
  rintro e w10 ⟨S2, rfl, xHS2, K⟩
  have HS2 := hid xHS2
  replace M := M.call K
  clear K xHS2
  refine ⟨_, rfl, M, ?_⟩
  simp only [Act.put, List.setIfInBounds_toArray, List.set_cons_zero, List.set_cons_succ]
  refine C_call rfl Salg.func67 (by kernel_rfl) (by kernel_rfl) (args := [S2, A64 p4, .bool t2]) rfl ?_
  refine (HPRO.out _ _ HS2.out).mono ?_
  rintro e w11 ⟨rfl, K⟩
  replace M := M.call K
  clear K
  refine ⟨_, rfl, M, ?_⟩
  simp only [Act.put, List.setIfInBounds_toArray, List.set_cons_zero, List.set_cons_succ]
  ((with_reducible apply C_run); rfl; rfl; (intro w M; go_simp; (try go_ints); (try simp only [↓IntWalk.iteOmega]); (try with_reducible rfl)); simp only [Act.put, List.setIfInBounds_toArray, List.set_cons_zero, List.set_cons_succ])
  refine C_nil ?_
  intro _
  clear HS2 HPRO
  go_wp2_with ((with_reducible apply W_loadAll); rfl; (first | with_reducible exact M.r0 | with_reducible exact M.r1 | with_reducible exact M.r2 | with_reducible exact M.r3 | with_reducible exact M.r4 | with_reducible exact M.r5 | with_reducible exact M.r6 | assumption | exact M.kept.row (by assumption) (by simp)); exact Salg.underlying25; rfl; (first | with_reducible exact size25 | (rw [size25]; simp [hxl, hyl])); simp only [Act.put, List.setIfInBounds_toArray, List.set_cons_zero, List.set_cons_succ])
  refine (HSU.out _).mono ?_
  rintro e w12 ⟨rfl, K⟩
  replace M := M.call K
  clear K
  clear HSU
  go_wp2_with (first
    | ((with_reducible apply L_allocA (d := 12) M); exact zero25; clear M; intro c7 w1 hc7 M; simp only [Act.put, List.setIfInBounds_toArray, List.set_cons_zero, List.set_cons_succ])
    | ((with_reducible apply W_storeK (b := c7)); rfl; rfl; exact M.r0; exact size25; (first | rfl | simp [h3l]); exact one64 _; intro w3 K hr3; replace M := Mem.callPut (L1 := []) M (Or.inr (by assumption)) K hr3; clear K hr3; simp only [List.cons_append, List.nil_append] at M))
  refine S_region (by kernel_rfl) ?_
  replace M := M.drew
  refine C_region [0, 1, 2, 3, 4, 5, 6, 7, 8, 11, 9, 10, 12, 13, 14, 15, 16, 17] (by kernel_rfl) M ?_
  simp only [List.filterMap_cons, List.filterMap_nil, List.getElem?_cons_zero, List.getElem?_cons_succ]
  ((with_reducible apply C_run); rfl; rfl; (intro w M; go_simp; (try go_ints); (try simp only [↓IntWalk.iteOmega]); (try with_reducible rfl)); simp only [Act.put, List.setIfInBounds_toArray, List.set_cons_zero, List.set_cons_succ])
  ((with_reducible apply C_run); rfl; rfl; (intro w M; go_simp; (try go_ints); (try simp only [↓IntWalk.iteOmega]); (try with_reducible rfl)); simp only [Act.put, List.setIfInBounds_toArray, List.set_cons_zero, List.set_cons_succ])
  ((with_reducible apply C_run); rfl; rfl; (intro w M; go_simp; (try go_ints); (try simp only [↓IntWalk.iteOmega]); (try with_reducible rfl)); simp only [Act.put, List.setIfInBounds_toArray, List.set_cons_zero, List.set_cons_succ])
  refine C_call rfl Salg.func72 (by kernel_rfl) (by kernel_rfl) (args := [N1, N2]) rfl ?_
  refine (cmp_num _ _ _ _ _ (HN1.out.kept M.kept) (HN2.out.kept M.kept)).mono ?_
  rintro e w13 ⟨rfl, K⟩
  replace M := M.call K
  clear K
  refine ⟨_, rfl, M, ?_⟩
  simp only [Act.put, List.setIfInBounds_toArray, List.set_cons_zero, List.set_cons_succ]
  generalize cmpI (be ba) (be bb) = cc at *
  ((with_reducible apply C_run); rfl; rfl; (intro w M; go_simp; (try go_ints); (try simp only [↓IntWalk.iteOmega]); (try with_reducible rfl)); simp only [Act.put, List.setIfInBounds_toArray, List.set_cons_zero, List.set_cons_succ])
  rw [HCP.out]
  ((with_reducible apply C_run); rfl; rfl; (intro w M; go_simp; (try go_ints); (try simp only [↓IntWalk.iteOmega]); (try with_reducible rfl)); simp only [Act.put, List.setIfInBounds_toArray, List.set_cons_zero, List.set_cons_succ])
  (try simp only [beq_self_eq_true])
  ((with_reducible apply C_run); rfl; rfl; (intro w M; go_simp; (try go_ints); (try simp only [↓IntWalk.iteOmega]); (try with_reducible rfl)); simp only [Act.put, List.setIfInBounds_toArray, List.set_cons_zero, List.set_cons_succ])
  ((with_reducible apply C_run); rfl; rfl; (intro w M; exact run_loadAll (by (first | with_reducible exact M.r0 | with_reducible exact M.r1 | with_reducible exact M.r2 | with_reducible exact M.r3 | with_reducible exact M.r4 | with_reducible exact M.r5 | with_reducible exact M.r6 | assumption | exact M.kept.row (by assumption) (by simp))) rfl Salg.underlying25 rfl (by first | with_reducible exact size25 | (rw [size25]; simp [h3l]))); simp only [Act.put, List.setIfInBounds_toArray, List.set_cons_zero, List.set_cons_succ])
  ((with_reducible apply C_run); rfl; rfl; (intro w M; go_simp; (try go_ints); (try simp only [↓IntWalk.iteOmega]); (try with_reducible rfl)); simp only [Act.put, List.setIfInBounds_toArray, List.set_cons_zero, List.set_cons_succ])
  ((with_reducible apply C_run); rfl; rfl; (intro w M; go_simp; (try go_ints); (try simp only [↓IntWalk.iteOmega]); (try with_reducible rfl)); simp only [Act.put, List.setIfInBounds_toArray, List.set_cons_zero, List.set_cons_succ])
  refine C_call rfl Salg.func74 (by kernel_rfl) (by kernel_rfl) (args := [.int .u16 256]) rfl ?_
  refine (pow2_int 256 (by decide) (by decide) _).mono ?_
  rintro e w14 ⟨P1, rfl, xHP1, K⟩
  have HP1 := hid xHP1
  replace M := M.call K
  clear K xHP1
  refine ⟨_, rfl, M, ?_⟩
  simp only [Act.put, List.setIfInBounds_toArray, List.set_cons_zero, List.set_cons_succ]
  refine C_call rfl Salg.func68 (by kernel_rfl) (by kernel_rfl) (args := [N1, P1]) rfl ?_
  refine (add_num _ _ _ _ _ (HN1.out.kept M.kept) HP1.out HX2.out (by decide)).mono ?_
  rintro e w15 ⟨Q1, rfl, xHQ1, K⟩
  have HQ1 := hid xHQ1
  replace M := M.call K
  clear K xHQ1
  refine ⟨_, rfl, M, ?_⟩
  simp only [Act.put, List.setIfInBounds_toArray, List.set_cons_zero, List.set_cons_succ]
  refine C_call rfl Salg.func75 (by kernel_rfl) (by kernel_rfl) (args := [N2]) rfl ?_
  refine (lessThanAll_any _ _ _ (HN2.out.kept M.kept) HYL.out).mono ?_
  rintro e w16 ⟨Q2, rfl, xHQ2, K⟩
  have HQ2 := hid xHQ2
  replace HQ1 := hid (HQ1.out.kept K)
  replace M := M.call K
  clear K xHQ2
  refine ⟨_, rfl, M, ?_⟩
  simp only [Act.put, List.setIfInBounds_toArray, List.set_cons_zero, List.set_cons_succ]
  refine C_call rfl Salg.func68 (by kernel_rfl) (by kernel_rfl) (args := [Q1, Q2]) rfl ?_
  refine (add_num _ _ _ _ _ HQ1.out HQ2.out HT1.out HT2.out).mono ?_
  rintro e w17 ⟨Q3, rfl, xHQ3, K⟩
  have HQ3 := hid xHQ3
  replace M := M.call K
  clear K xHQ3
  refine ⟨_, rfl, M, ?_⟩
  simp only [Act.put, List.setIfInBounds_toArray, List.set_cons_zero, List.set_cons_succ]
  refine C_call rfl Salg.func73 (by kernel_rfl) (by kernel_rfl) (args := [Q3]) rfl ?_
  refine (modPow_any _ _ _ HQ3.out HT3.out).mono ?_
  rintro e w18 ⟨Q4, rfl, xHQ4, K⟩
  have HQ4 := hid xHQ4
  replace M := M.call K
  clear K xHQ4
  refine ⟨_, rfl, M, ?_⟩
  simp only [Act.put, List.setIfInBounds_toArray, List.set_cons_zero, List.set_cons_succ]
  replace HQ4 : Hid (NumV w18 Q4 (lval d4)) := by rw [← HDE.out]; exact HQ4
  refine C_call rfl Salg.func65 (by kernel_rfl) (by kernel_rfl) (args := [A64 d4, Q4]) rfl ?_
  refine (isNat_yes d4 _ _ h3l HL3.out HQ4.out).mono ?_
  rintro e w19 ⟨rfl, K⟩
  replace M := M.call K
  clear K
  refine ⟨_, rfl, M, ?_⟩
  simp only [Act.put, List.setIfInBounds_toArray, List.set_cons_zero, List.set_cons_succ]
  ((with_reducible apply C_run); rfl; rfl; (intro w M; go_simp; (try go_ints); (try simp only [↓IntWalk.iteOmega]); (try with_reducible rfl)); simp only [Act.put, List.setIfInBounds_toArray, List.set_cons_zero, List.set_cons_succ])
  ((with_reducible apply C_run); rfl; rfl; (intro w M; go_simp; (try go_ints); (try simp only [↓IntWalk.iteOmega]); (try with_reducible rfl)); simp only [Act.put, List.setIfInBounds_toArray, List.set_cons_zero, List.set_cons_succ])
  refine C_nil ?_
  intro _
  go_wp2_with fail
  go_ret
  exact ⟨rfl, K6.out.trans M.kept⟩
end Go.Proofs.YgcsalGreat

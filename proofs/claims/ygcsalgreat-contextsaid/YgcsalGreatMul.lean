/-
  The walk of u256.Mul.
-/
import Derived.Test.YgcsalGreatAlu1
set_option linter.unusedSimpArgs false
namespace Go.Own
theorem w3a (i x y k : Nat) : ∃ p q : Nat, IntKind.u64.wrap (IntKind.u64.wrap ((i : Int) + IntKind.u64.wrap ((x : Int) * (y : Int))) + (k : Int)) = (p : Int) ∧ p < 18446744073709551616 ∧ i + x * y + k = p + 18446744073709551616 * q := by
  refine ⟨(i + x * y + k) % 18446744073709551616, (i + x * y + k) / 18446744073709551616, ?_, Nat.mod_lt _ (by decide), by omega⟩
  rw [← Int.natCast_mul]
  generalize x * y = t
  simp only [IntKind.wrap_u64]
  omega
theorem w3b (p i x y k : Nat) : ∃ p2 q : Nat, IntKind.u64.wrap ((p : Int) + IntKind.u64.wrap (IntKind.u64.wrap ((i : Int) + IntKind.u64.wrap ((x : Int) * (y : Int))) + (k : Int))) = (p2 : Int) ∧ p2 < 18446744073709551616 ∧ p + i + x * y + k = p2 + 18446744073709551616 * q := by
  refine ⟨(p + i + x * y + k) % 18446744073709551616, (p + i + x * y + k) / 18446744073709551616, ?_, Nat.mod_lt _ (by decide), by omega⟩
  rw [← Int.natCast_mul]
  generalize x * y = t
  simp only [IntKind.wrap_u64]
  omega
theorem w3c (p k : Nat) : ∃ p2 q : Nat, IntKind.u64.wrap ((p : Int) + (k : Int)) = (p2 : Int) ∧ p2 < 18446744073709551616 ∧ p + k = p2 + 18446744073709551616 * q := by
  refine ⟨(p + k) % 18446744073709551616, (p + k) / 18446744073709551616, ?_, Nat.mod_lt _ (by decide), by omega⟩
  simp only [IntKind.wrap_u64]
  omega
theorem w3d (p i x y k u v : Nat) : ∃ p2 q : Nat, IntKind.u64.wrap ((p : Int) + IntKind.u64.wrap (IntKind.u64.wrap (IntKind.u64.wrap ((i : Int) + IntKind.u64.wrap ((x : Int) * (y : Int))) + (k : Int)) + IntKind.u64.wrap ((u : Int) * (v : Int)))) = (p2 : Int) ∧ p2 < 18446744073709551616 ∧
    p + i + x * y + k + u * v = p2 + 18446744073709551616 * q := by
  refine ⟨(p + i + x * y + k + u * v) % 18446744073709551616, (p + i + x * y + k + u * v) / 18446744073709551616, ?_, Nat.mod_lt _ (by decide), by omega⟩
  rw [← Int.natCast_mul, ← Int.natCast_mul]
  generalize x * y = t
  generalize u * v = t2
  simp only [IntKind.wrap_u64]
  omega
end Go.Own
namespace Go.Proofs.YgcsalGreat
open Go.RowKit Go.Own

set_option maxHeartbeats 2000000 in
set_option maxRecDepth 100000 in
theorem wMul (xs ys : List Nat) (w : World) (hx : xs.length = 4) (hy : ys.length = 4) (hLx : Limbs xs) (hLy : Limbs ys) :
    Calls Salg.prog 39 #[A64 xs, A64 ys] w fun e w' => e = .returned (A64 (nl 4 (lval xs * lval ys))) ∧ Kept [] w w' := by
  have M := Mem.start w []
  obtain ⟨a0, a1, a2, a3, rfl⟩ := four hx
  obtain ⟨b0, b1, b2, b3, rfl⟩ := four hy
  have ha0 : a0 < 18446744073709551616 := hLx _ (by simp)
  have ha1 : a1 < 18446744073709551616 := hLx _ (by simp)
  have ha2 : a2 < 18446744073709551616 := hLx _ (by simp)
  have ha3 : a3 < 18446744073709551616 := hLx _ (by simp)
  have hb0 : b0 < 18446744073709551616 := hLy _ (by simp)
  have hb1 : b1 < 18446744073709551616 := hLy _ (by simp)
  have hb2 : b2 < 18446744073709551616 := hLy _ (by simp)
  have hb3 : b3 < 18446744073709551616 := hLy _ (by simp)
  clear hLx hLy
  go_enter Salg.func39, Salg.ntmps39
  go_wp2_with (first
    | ((with_reducible apply L_box (d := 2) M); rfl; clear M; intro c1 w1 hc1 M; simp only [Act.put, List.setIfInBounds_toArray, List.set_cons_zero, List.set_cons_succ])
    | ((with_reducible apply L_box (d := 3) M); rfl; clear M; intro c2 w1 hc2 M; simp only [Act.put, List.setIfInBounds_toArray, List.set_cons_zero, List.set_cons_succ])
    | ((with_reducible apply L_allocA (d := 4) M); exact zero25; clear M; intro c3 w1 hc3 M; simp only [Act.put, List.setIfInBounds_toArray, List.set_cons_zero, List.set_cons_succ])
    | ((with_reducible apply W_loadCell); rfl; (first | with_reducible exact M.r0 | with_reducible exact M.r1 | with_reducible exact M.r2 | with_reducible exact M.r3 | with_reducible exact M.r4 | with_reducible exact M.r5 | with_reducible exact M.r6 | assumption | exact M.kept.row (by assumption) (by simp)); (first | exact get_map (by assumption) | exact get_map rfl | rfl); exact Salg.underlying23; rfl; simp only [Act.put, List.setIfInBounds_toArray, List.set_cons_zero, List.set_cons_succ]))
  refine (mul64_ex a0 b0 ha0 hb0 _).mono ?_
  rintro e z1 ⟨u1, p0, rfl, xb1, xc1, xm1, xp1, rfl⟩
  have HBu1 := hid xb1
  have HBp0 := hid xc1
  have HM1 := hid xm1
  clear xb1 xc1 xm1 xp1
  go_wp2_with ((with_reducible apply W_loadCell); rfl; (first | with_reducible exact M.r0 | with_reducible exact M.r1 | with_reducible exact M.r2 | with_reducible exact M.r3 | with_reducible exact M.r4 | with_reducible exact M.r5 | with_reducible exact M.r6 | assumption | exact M.kept.row (by assumption) (by simp)); (first | exact get_map (by assumption) | exact get_map rfl | rfl); exact Salg.underlying23; rfl; simp only [Act.put, List.setIfInBounds_toArray, List.set_cons_zero, List.set_cons_succ])
  refine (mul64_ex a0 b1 ha0 hb1 _).mono ?_
  rintro e z2 ⟨i1, o1, rfl, xb2, xc2, xm2, xp2, rfl⟩
  have HBi1 := hid xb2
  have HBo1 := hid xc2
  have HM2 := hid xm2
  clear xb2 xc2 xm2 xp2
  go_wp2_with ((with_reducible apply W_loadCell); rfl; (first | with_reducible exact M.r0 | with_reducible exact M.r1 | with_reducible exact M.r2 | with_reducible exact M.r3 | with_reducible exact M.r4 | with_reducible exact M.r5 | with_reducible exact M.r6 | assumption | exact M.kept.row (by assumption) (by simp)); (first | exact get_map (by assumption) | exact get_map rfl | rfl); exact Salg.underlying23; rfl; simp only [Act.put, List.setIfInBounds_toArray, List.set_cons_zero, List.set_cons_succ])
  refine (mul64_ex a0 b2 ha0 hb2 _).mono ?_
  rintro e z3 ⟨i2, o2, rfl, xb3, xc3, xm3, xp3, rfl⟩
  have HBi2 := hid xb3
  have HBo2 := hid xc3
  have HM3 := hid xm3
  clear xb3 xc3 xm3 xp3
  go_wp2_with ((with_reducible apply W_loadCell); rfl; (first | with_reducible exact M.r0 | with_reducible exact M.r1 | with_reducible exact M.r2 | with_reducible exact M.r3 | with_reducible exact M.r4 | with_reducible exact M.r5 | with_reducible exact M.r6 | assumption | exact M.kept.row (by assumption) (by simp)); (first | exact get_map (by assumption) | exact get_map rfl | rfl); exact Salg.underlying23; rfl; simp only [Act.put, List.setIfInBounds_toArray, List.set_cons_zero, List.set_cons_succ])
  refine (add64_ex u1 o1 0 HBu1.out HBo1.out (by decide) _).mono ?_
  rintro e z4 ⟨v1, k1, rfl, xb4, xc4, xm4, rfl⟩
  have HBv1 := hid xb4
  have HBk1 := hid xc4
  have HM4 := hid xm4
  clear xb4 xc4 xm4
  go_wp2_with ((with_reducible apply W_loadCell); rfl; (first | with_reducible exact M.r0 | with_reducible exact M.r1 | with_reducible exact M.r2 | with_reducible exact M.r3 | with_reducible exact M.r4 | with_reducible exact M.r5 | with_reducible exact M.r6 | assumption | exact M.kept.row (by assumption) (by simp)); (first | exact get_map (by assumption) | exact get_map rfl | rfl); exact Salg.underlying23; rfl; simp only [Act.put, List.setIfInBounds_toArray, List.set_cons_zero, List.set_cons_succ])
  refine (add64_ex i1 o2 k1 HBi1.out HBo2.out HBk1.out _).mono ?_
  rintro e z5 ⟨v2, k2, rfl, xb5, xc5, xm5, rfl⟩
  have HBv2 := hid xb5
  have HBk2 := hid xc5
  have HM5 := hid xm5
  clear xb5 xc5 xm5
  go_wp2_with ((with_reducible apply W_loadCell); rfl; (first | with_reducible exact M.r0 | with_reducible exact M.r1 | with_reducible exact M.r2 | with_reducible exact M.r3 | with_reducible exact M.r4 | with_reducible exact M.r5 | with_reducible exact M.r6 | assumption | exact M.kept.row (by assumption) (by simp)); (first | exact get_map (by assumption) | exact get_map rfl | rfl); exact Salg.underlying23; rfl; simp only [Act.put, List.setIfInBounds_toArray, List.set_cons_zero, List.set_cons_succ])
  obtain ⟨t1, q1, e6, xl6, xm6⟩ := w3a i2 a0 b3 k2
  rw [e6]
  have HBt1 := hid xl6
  have HM6 := hid xm6
  clear e6 xl6 xm6
  refine (mul64_ex a1 b0 ha1 hb0 _).mono ?_
  rintro e z7 ⟨j0, m0, rfl, xb7, xc7, xm7, xp7, rfl⟩
  have HBj0 := hid xb7
  have HBm0 := hid xc7
  have HM7 := hid xm7
  clear xb7 xc7 xm7 xp7
  go_wp2_with ((with_reducible apply W_loadCell); rfl; (first | with_reducible exact M.r0 | with_reducible exact M.r1 | with_reducible exact M.r2 | with_reducible exact M.r3 | with_reducible exact M.r4 | with_reducible exact M.r5 | with_reducible exact M.r6 | assumption | exact M.kept.row (by assumption) (by simp)); (first | exact get_map (by assumption) | exact get_map rfl | rfl); exact Salg.underlying23; rfl; simp only [Act.put, List.setIfInBounds_toArray, List.set_cons_zero, List.set_cons_succ])
  refine (mul64_ex a1 b1 ha1 hb1 _).mono ?_
  rintro e z8 ⟨j1, m1, rfl, xb8, xc8, xm8, xp8, rfl⟩
  have HBj1 := hid xb8
  have HBm1 := hid xc8
  have HM8 := hid xm8
  clear xb8 xc8 xm8 xp8
  go_wp2_with ((with_reducible apply W_loadCell); rfl; (first | with_reducible exact M.r0 | with_reducible exact M.r1 | with_reducible exact M.r2 | with_reducible exact M.r3 | with_reducible exact M.r4 | with_reducible exact M.r5 | with_reducible exact M.r6 | assumption | exact M.kept.row (by assumption) (by simp)); (first | exact get_map (by assumption) | exact get_map rfl | rfl); exact Salg.underlying23; rfl; simp only [Act.put, List.setIfInBounds_toArray, List.set_cons_zero, List.set_cons_succ])
  refine (add64_ex v1 m0 0 HBv1.out HBm0.out (by decide) _).mono ?_
  rintro e z9 ⟨v3, k3, rfl, xb9, xc9, xm9, rfl⟩
  have HBv3 := hid xb9
  have HBk3 := hid xc9
  have HM9 := hid xm9
  clear xb9 xc9 xm9
  go_wp2_with ((with_reducible apply W_loadCell); rfl; (first | with_reducible exact M.r0 | with_reducible exact M.r1 | with_reducible exact M.r2 | with_reducible exact M.r3 | with_reducible exact M.r4 | with_reducible exact M.r5 | with_reducible exact M.r6 | assumption | exact M.kept.row (by assumption) (by simp)); (first | exact get_map (by assumption) | exact get_map rfl | rfl); exact Salg.underlying23; rfl; simp only [Act.put, List.setIfInBounds_toArray, List.set_cons_zero, List.set_cons_succ])
  refine (add64_ex v2 m1 k3 HBv2.out HBm1.out HBk3.out _).mono ?_
  rintro e z10 ⟨v4, k4, rfl, xb10, xc10, xm10, rfl⟩
  have HBv4 := hid xb10
  have HBk4 := hid xc10
  have HM10 := hid xm10
  clear xb10 xc10 xm10
  go_wp2_with ((with_reducible apply W_loadCell); rfl; (first | with_reducible exact M.r0 | with_reducible exact M.r1 | with_reducible exact M.r2 | with_reducible exact M.r3 | with_reducible exact M.r4 | with_reducible exact M.r5 | with_reducible exact M.r6 | assumption | exact M.kept.row (by assumption) (by simp)); (first | exact get_map (by assumption) | exact get_map rfl | rfl); exact Salg.underlying23; rfl; simp only [Act.put, List.setIfInBounds_toArray, List.set_cons_zero, List.set_cons_succ])
  obtain ⟨t2, q2, e11, xl11, xm11⟩ := w3b t1 j1 a1 b2 k4
  rw [e11]
  have HBt2 := hid xl11
  have HM11 := hid xm11
  clear e11 xl11 xm11
  refine (add64_ex v4 j0 0 HBv4.out HBj0.out (by decide) _).mono ?_
  rintro e z12 ⟨v5, k5, rfl, xb12, xc12, xm12, rfl⟩
  have HBv5 := hid xb12
  have HBk5 := hid xc12
  have HM12 := hid xm12
  clear xb12 xc12 xm12
  go_wp2_with ((with_reducible apply W_loadCell); rfl; (first | with_reducible exact M.r0 | with_reducible exact M.r1 | with_reducible exact M.r2 | with_reducible exact M.r3 | with_reducible exact M.r4 | with_reducible exact M.r5 | with_reducible exact M.r6 | assumption | exact M.kept.row (by assumption) (by simp)); (first | exact get_map (by assumption) | exact get_map rfl | rfl); exact Salg.underlying23; rfl; simp only [Act.put, List.setIfInBounds_toArray, List.set_cons_zero, List.set_cons_succ])
  obtain ⟨t3, q3, e13, xl13, xm13⟩ := w3c t2 k5
  rw [e13]
  have HBt3 := hid xl13
  have HM13 := hid xm13
  clear e13 xl13 xm13
  refine (mul64_ex a2 b0 ha2 hb0 _).mono ?_
  rintro e z14 ⟨l0, g0, rfl, xb14, xc14, xm14, xp14, rfl⟩
  have HBl0 := hid xb14
  have HBg0 := hid xc14
  have HM14 := hid xm14
  clear xb14 xc14 xm14 xp14
  go_wp2_with ((with_reducible apply W_loadCell); rfl; (first | with_reducible exact M.r0 | with_reducible exact M.r1 | with_reducible exact M.r2 | with_reducible exact M.r3 | with_reducible exact M.r4 | with_reducible exact M.r5 | with_reducible exact M.r6 | assumption | exact M.kept.row (by assumption) (by simp)); (first | exact get_map (by assumption) | exact get_map rfl | rfl); exact Salg.underlying23; rfl; simp only [Act.put, List.setIfInBounds_toArray, List.set_cons_zero, List.set_cons_succ])
  refine (add64_ex v5 g0 0 HBv5.out HBg0.out (by decide) _).mono ?_
  rintro e z15 ⟨v6, k6, rfl, xb15, xc15, xm15, rfl⟩
  have HBv6 := hid xb15
  have HBk6 := hid xc15
  have HM15 := hid xm15
  clear xb15 xc15 xm15
  obtain ⟨t4, q4, e99, xl99, xm99⟩ := w3d t3 l0 a2 b1 k6 a3 b0
  have HE : Hid ([p0, v3, v6, t4] = nl 4 (lval [a0, a1, a2, a3] * lval [b0, b1, b2, b3])) := by
    have hlim : Limbs [p0, v3, v6, t4] := by
      have z1 := HBp0.out; have z2 := HBv3.out; have z3 := HBv6.out
      intro y hy; simp at hy; omega
    refine nl_of_mod (k := 4) hlim rfl ?_
    have e : lval [a0, a1, a2, a3] * lval [b0, b1, b2, b3] = a0 * b0 + 18446744073709551616 * (a0 * b1) + 340282366920938463463374607431768211456 * (a0 * b2) + 6277101735386680763835789423207666416102355444464034512896 * (a0 * b3) + 18446744073709551616 * (a1 * b0) + 340282366920938463463374607431768211456 * (a1 * b1) + 6277101735386680763835789423207666416102355444464034512896 * (a1 * b2) + 115792089237316195423570985008687907853269984665640564039457584007913129639936 * (a1 * b3) + 340282366920938463463374607431768211456 * (a2 * b0) + 6277101735386680763835789423207666416102355444464034512896 * (a2 * b1) + 115792089237316195423570985008687907853269984665640564039457584007913129639936 * (a2 * b2) + 2135987035920910082395021706169552114602704522356652769947041607822219725780640550022962086936576 * (a2 * b3) + 6277101735386680763835789423207666416102355444464034512896 * (a3 * b0) + 115792089237316195423570985008687907853269984665640564039457584007913129639936 * (a3 * b1) + 2135987035920910082395021706169552114602704522356652769947041607822219725780640550022962086936576 * (a3 * b2) + 39402006196394479212279040100143613805079739270465446667948293404245721771497210611414266254884915640806627990306816 * (a3 * b3) := by
      simp only [lval, Nat.mul_zero, Nat.add_zero]
      simp only [Nat.add_mul, Nat.mul_add, Nat.mul_assoc, Nat.mul_left_comm _ 18446744073709551616]
      omega
    rw [e]
    have z1 := HBp0.out
    have z2 := HBv3.out
    have z3 := HBv6.out
    have yHM1 := HM1.out
    have yHM2 := HM2.out
    have yHM3 := HM3.out
    have yHM4 := HM4.out
    have yHM5 := HM5.out
    have yHM6 := HM6.out
    have yHM7 := HM7.out
    have yHM8 := HM8.out
    have yHM9 := HM9.out
    have yHM10 := HM10.out
    have yHM11 := HM11.out
    have yHM12 := HM12.out
    have yHM13 := HM13.out
    have yHM14 := HM14.out
    have yHM15 := HM15.out
    generalize a0 * b0 = t00 at *
    generalize a0 * b1 = t01 at *
    generalize a0 * b2 = t02 at *
    generalize a0 * b3 = t03 at *
    generalize a1 * b0 = t10 at *
    generalize a1 * b1 = t11 at *
    generalize a1 * b2 = t12 at *
    generalize a1 * b3 = t13 at *
    generalize a2 * b0 = t20 at *
    generalize a2 * b1 = t21 at *
    generalize a2 * b2 = t22 at *
    generalize a2 * b3 = t23 at *
    generalize a3 * b0 = t30 at *
    generalize a3 * b1 = t31 at *
    generalize a3 * b2 = t32 at *
    generalize a3 * b3 = t33 at *
    simp only [lval, Nat.mul_zero, Nat.add_zero]
    clear hlim e
    omega
  have HL99 := hid e99
  clear e99 xl99 xm99
  go_wp2_with (first
    | ((with_reducible apply W_loadCell); rfl; (first | with_reducible exact M.r0 | with_reducible exact M.r1 | with_reducible exact M.r2 | with_reducible exact M.r3 | with_reducible exact M.r4 | with_reducible exact M.r5 | with_reducible exact M.r6 | assumption | exact M.kept.row (by assumption) (by simp)); (first | exact get_map (by assumption) | exact get_map rfl | rfl); exact Salg.underlying23; rfl; simp only [Act.put, List.setIfInBounds_toArray, List.set_cons_zero, List.set_cons_succ])
    | ((with_reducible apply W_storeK (b := c3) (vs := (([p0, v3, v6, t4] : List Nat).map n64).toArray)); rfl; (rw [HL99.out]; rfl); exact M.r0; exact size25; rfl; exact one64 _; intro w3 K hr3; replace M := Mem.callPut (L1 := []) M (Or.inr (by assumption)) K hr3; clear K hr3; simp only [List.cons_append, List.nil_append] at M))
  exact ret_cell1 Salg.results39 rfl M.r0 Salg.underlying25 rfl size25 rfl ⟨by rw [← HE.out], M.kept⟩
end Go.Proofs.YgcsalGreat

/-
  The walk of u256.square.
-/
import Derived.Test.YgcsalGreatMul
set_option linter.unusedSimpArgs false
namespace Go.Own
theorem w4a (i x y u v k : Nat) : ∃ p q : Nat, IntKind.u64.wrap (IntKind.u64.wrap (IntKind.u64.wrap ((i : Int) + IntKind.u64.wrap ((x : Int) * (y : Int))) + IntKind.u64.wrap ((u : Int) * (v : Int))) + (k : Int)) = (p : Int) ∧ p < 18446744073709551616 ∧ i + x * y + u * v + k = p + 18446744073709551616 * q := by
  refine ⟨(i + x * y + u * v + k) % 18446744073709551616, (i + x * y + u * v + k) / 18446744073709551616, ?_, Nat.mod_lt _ (by decide), by omega⟩
  rw [← Int.natCast_mul, ← Int.natCast_mul]
  generalize x * y = t
  generalize u * v = t2
  simp only [IntKind.wrap_u64]
  omega
theorem dbl (x : Nat) : ∃ p q : Nat, IntKind.u64.wrap ((x : Int) * 2) = (p : Int) ∧ p < 18446744073709551616 ∧ x * 2 = p + 18446744073709551616 * q := by
  refine ⟨x * 2 % 18446744073709551616, x * 2 / 18446744073709551616, ?_, Nat.mod_lt _ (by decide), by omega⟩
  simp only [IntKind.wrap_u64]
  omega
theorem dblor (x y : Nat) (hy : y < 18446744073709551616) : ∃ p q : Nat, bits .or .u64 (IntKind.u64.wrap ((x : Int) * 2)) ((y : Int) / 9223372036854775808) = (p : Int) ∧ p < 18446744073709551616 ∧ x * 2 + y / 9223372036854775808 = p + 18446744073709551616 * q := by
  have h := up_or (d := x) (s := 1) (c := y / 9223372036854775808) (by decide) (by omega)
  refine ⟨x * 2 % 18446744073709551616 + y / 9223372036854775808, x * 2 / 18446744073709551616, ?_, by omega, by omega⟩
  have e : ((y : Int) / 9223372036854775808) = ((y / 9223372036854775808 : Nat) : Int) := by omega
  rw [e]
  simpa using h
theorem w5 (i p k : Nat) : ∃ t q : Nat, IntKind.u64.wrap (IntKind.u64.wrap ((i : Int) + (p : Int)) + (k : Int)) = (t : Int) ∧ t < 18446744073709551616 ∧ i + p + k = t + 18446744073709551616 * q := by
  refine ⟨(i + p + k) % 18446744073709551616, (i + p + k) / 18446744073709551616, ?_, Nat.mod_lt _ (by decide), by omega⟩
  simp only [IntKind.wrap_u64]
  omega
end Go.Own
namespace Go.Proofs.YgcsalGreat
open Go.RowKit Go.Own

set_option maxHeartbeats 2000000 in
set_option maxRecDepth 100000 in
theorem wSquare (xs : List Nat) (w : World) (hx : xs.length = 4) (hLx : Limbs xs) :
    Calls Salg.prog 137 #[A64 xs] w fun e w' => e = .returned (A64 (nl 4 (lval xs * lval xs))) ∧ Kept [] w w' := by
  have M := Mem.start w []
  obtain ⟨a0, a1, a2, a3, rfl⟩ := four hx
  have ha0 : a0 < 18446744073709551616 := hLx _ (by simp)
  have ha1 : a1 < 18446744073709551616 := hLx _ (by simp)
  have ha2 : a2 < 18446744073709551616 := hLx _ (by simp)
  have ha3 : a3 < 18446744073709551616 := hLx _ (by simp)
  clear hLx
  go_enter Salg.func137, Salg.ntmps137
  go_wp2_with (first
    | ((with_reducible apply L_box (d := 1) M); rfl; clear M; intro c1 w1 hc1 M; simp only [Act.put, List.setIfInBounds_toArray, List.set_cons_zero, List.set_cons_succ])
    | ((with_reducible apply L_allocA (d := 2) M); exact zero25; clear M; intro c3 w1 hc3 M; simp only [Act.put, List.setIfInBounds_toArray, List.set_cons_zero, List.set_cons_succ])
    | ((with_reducible apply W_loadCell); rfl; (first | with_reducible exact M.r0 | with_reducible exact M.r1 | with_reducible exact M.r2 | with_reducible exact M.r3 | with_reducible exact M.r4 | with_reducible exact M.r5 | with_reducible exact M.r6 | assumption | exact M.kept.row (by assumption) (by simp)); (first | exact get_map (by assumption) | exact get_map rfl | rfl); exact Salg.underlying23; rfl; simp only [Act.put, List.setIfInBounds_toArray, List.set_cons_zero, List.set_cons_succ]))
  refine (mul64_ex a0 a1 ha0 ha1 _).mono ?_
  rintro e z1 ⟨i1, o1, rfl, xb1, xc1, xm1, xp1, rfl⟩
  have HBi1 := hid xb1
  have HBo1 := hid xc1
  have HM1 := hid xm1
  clear xb1 xc1 xm1 xp1
  go_wp2_with ((with_reducible apply W_loadCell); rfl; (first | with_reducible exact M.r0 | with_reducible exact M.r1 | with_reducible exact M.r2 | with_reducible exact M.r3 | with_reducible exact M.r4 | with_reducible exact M.r5 | with_reducible exact M.r6 | assumption | exact M.kept.row (by assumption) (by simp)); (first | exact get_map (by assumption) | exact get_map rfl | rfl); exact Salg.underlying23; rfl; simp only [Act.put, List.setIfInBounds_toArray, List.set_cons_zero, List.set_cons_succ])
  refine (mul64_ex a0 a2 ha0 ha2 _).mono ?_
  rintro e z2 ⟨i2, o2, rfl, xb2, xc2, xm2, xp2, rfl⟩
  have HBi2 := hid xb2
  have HBo2 := hid xc2
  have HM2 := hid xm2
  clear xb2 xc2 xm2 xp2
  go_wp2_with ((with_reducible apply W_loadCell); rfl; (first | with_reducible exact M.r0 | with_reducible exact M.r1 | with_reducible exact M.r2 | with_reducible exact M.r3 | with_reducible exact M.r4 | with_reducible exact M.r5 | with_reducible exact M.r6 | assumption | exact M.kept.row (by assumption) (by simp)); (first | exact get_map (by assumption) | exact get_map rfl | rfl); exact Salg.underlying23; rfl; simp only [Act.put, List.setIfInBounds_toArray, List.set_cons_zero, List.set_cons_succ])
  refine (add64_ex i1 o2 0 HBi1.out HBo2.out (by decide) _).mono ?_
  rintro e z3 ⟨m2, k1, rfl, xb3, xc3, xm3, rfl⟩
  have HBm2 := hid xb3
  have HBk1 := hid xc3
  have HM3 := hid xm3
  clear xb3 xc3 xm3
  go_wp2_with ((with_reducible apply W_loadCell); rfl; (first | with_reducible exact M.r0 | with_reducible exact M.r1 | with_reducible exact M.r2 | with_reducible exact M.r3 | with_reducible exact M.r4 | with_reducible exact M.r5 | with_reducible exact M.r6 | assumption | exact M.kept.row (by assumption) (by simp)); (first | exact get_map (by assumption) | exact get_map rfl | rfl); exact Salg.underlying23; rfl; simp only [Act.put, List.setIfInBounds_toArray, List.set_cons_zero, List.set_cons_succ])
  obtain ⟨m3, r1, e4, xl4, xm4⟩ := w4a i2 a0 a3 a1 a2 k1
  rw [e4]
  have HBm3 := hid xl4
  have HM4 := hid xm4
  clear e4 xl4 xm4
  refine (mul64_ex a0 a0 ha0 ha0 _).mono ?_
  rintro e z5 ⟨i0, p0, rfl, xb5, xc5, xm5, xp5, rfl⟩
  have HBi0 := hid xb5
  have HBp0 := hid xc5
  have HM5 := hid xm5
  clear xb5 xc5 xm5 xp5
  go_wp2_with ((with_reducible apply W_loadCell); rfl; (first | with_reducible exact M.r0 | with_reducible exact M.r1 | with_reducible exact M.r2 | with_reducible exact M.r3 | with_reducible exact M.r4 | with_reducible exact M.r5 | with_reducible exact M.r6 | assumption | exact M.kept.row (by assumption) (by simp)); (first | exact get_map (by assumption) | exact get_map rfl | rfl); exact Salg.underlying23; rfl; simp only [Act.put, List.setIfInBounds_toArray, List.set_cons_zero, List.set_cons_succ])
  refine (mul64_ex a1 a1 ha1 ha1 _).mono ?_
  rintro e z6 ⟨i3, o3, rfl, xb6, xc6, xm6, xp6, rfl⟩
  have HBi3 := hid xb6
  have HBo3 := hid xc6
  have HM6 := hid xm6
  clear xb6 xc6 xm6 xp6
  go_wp2_with ((with_reducible apply W_loadCell); rfl; (first | with_reducible exact M.r0 | with_reducible exact M.r1 | with_reducible exact M.r2 | with_reducible exact M.r3 | with_reducible exact M.r4 | with_reducible exact M.r5 | with_reducible exact M.r6 | assumption | exact M.kept.row (by assumption) (by simp)); (first | exact get_map (by assumption) | exact get_map rfl | rfl); exact Salg.underlying23; rfl; simp only [Act.put, List.setIfInBounds_toArray, List.set_cons_zero, List.set_cons_succ])
  obtain ⟨d1, r2, e7, xl7, xm7⟩ := dbl o1
  rw [e7]
  have HBd1 := hid xl7
  have HM7 := hid xm7
  clear e7 xl7 xm7
  refine (add64_ex i0 d1 0 HBi0.out HBd1.out (by decide) _).mono ?_
  rintro e z8 ⟨v1, k2, rfl, xb8, xc8, xm8, rfl⟩
  have HBv1 := hid xb8
  have HBk2 := hid xc8
  have HM8 := hid xm8
  clear xb8 xc8 xm8
  go_wp2_with ((with_reducible apply W_loadCell); rfl; (first | with_reducible exact M.r0 | with_reducible exact M.r1 | with_reducible exact M.r2 | with_reducible exact M.r3 | with_reducible exact M.r4 | with_reducible exact M.r5 | with_reducible exact M.r6 | assumption | exact M.kept.row (by assumption) (by simp)); (first | exact get_map (by assumption) | exact get_map rfl | rfl); exact Salg.underlying23; rfl; simp only [Act.put, List.setIfInBounds_toArray, List.set_cons_zero, List.set_cons_succ])
  obtain ⟨d2, r3, e9, xl9, xm9⟩ := dblor m2 o1 HBo1.out
  rw [e9]
  have HBd2 := hid xl9
  have HM9 := hid xm9
  clear e9 xl9 xm9
  refine (add64_ex o3 d2 k2 HBo3.out HBd2.out HBk2.out _).mono ?_
  rintro e z10 ⟨v2, k3, rfl, xb10, xc10, xm10, rfl⟩
  have HBv2 := hid xb10
  have HBk3 := hid xc10
  have HM10 := hid xm10
  clear xb10 xc10 xm10
  obtain ⟨d3, r4, e98, xl98, xm98⟩ := dblor m3 m2 HBm2.out
  obtain ⟨t4, q4, e99, xl99, xm99⟩ := w5 i3 d3 k3
  have HE : Hid ([p0, v1, v2, t4] = nl 4 (lval [a0, a1, a2, a3] * lval [a0, a1, a2, a3])) := by
    have hlim : Limbs [p0, v1, v2, t4] := by
      have z1 := HBp0.out; have z2 := HBv1.out; have z3 := HBv2.out
      intro y hy; simp at hy; omega
    refine nl_of_mod (k := 4) hlim rfl ?_
    have e : lval [a0, a1, a2, a3] * lval [a0, a1, a2, a3] = a0 * a0 + 18446744073709551616 * (a0 * a1) + 340282366920938463463374607431768211456 * (a0 * a2) + 6277101735386680763835789423207666416102355444464034512896 * (a0 * a3) + 18446744073709551616 * (a1 * a0) + 340282366920938463463374607431768211456 * (a1 * a1) + 6277101735386680763835789423207666416102355444464034512896 * (a1 * a2) + 115792089237316195423570985008687907853269984665640564039457584007913129639936 * (a1 * a3) + 340282366920938463463374607431768211456 * (a2 * a0) + 6277101735386680763835789423207666416102355444464034512896 * (a2 * a1) + 115792089237316195423570985008687907853269984665640564039457584007913129639936 * (a2 * a2) + 2135987035920910082395021706169552114602704522356652769947041607822219725780640550022962086936576 * (a2 * a3) + 6277101735386680763835789423207666416102355444464034512896 * (a3 * a0) + 115792089237316195423570985008687907853269984665640564039457584007913129639936 * (a3 * a1) + 2135987035920910082395021706169552114602704522356652769947041607822219725780640550022962086936576 * (a3 * a2) + 39402006196394479212279040100143613805079739270465446667948293404245721771497210611414266254884915640806627990306816 * (a3 * a3) := by
      simp only [lval, Nat.mul_zero, Nat.add_zero]
      simp only [Nat.add_mul, Nat.mul_add, Nat.mul_assoc, Nat.mul_left_comm _ 18446744073709551616]
      omega
    rw [e, Nat.mul_comm a1 a0, Nat.mul_comm a2 a0, Nat.mul_comm a3 a0, Nat.mul_comm a2 a1]
    have z1 := HBp0.out
    have z2 := HBv1.out
    have z3 := HBv2.out
    have z4 := HBo1.out
    have z5 := HBm2.out
    have z6 := HBd1.out
    have z7 := HBd2.out
    have hlt : lval [p0, v1, v2, t4] < 18446744073709551616 ^ 4 := lval_lt hlim
    have yHM1 := HM1.out
    have yHM2 := HM2.out
    have yHM3 := HM3.out
    have yHM4 := HM4.out
    have yHM5 := HM5.out
    have yHM6 := HM6.out
    have yHM7 := HM7.out
    have yHM8 := HM8.out
    have yHM9 := HM9.out
    have yHM10 := HM10.out
    generalize a0 * a0 = t00 at *
    generalize a0 * a1 = t01 at *
    generalize a0 * a2 = t02 at *
    generalize a0 * a3 = t03 at *
    generalize a1 * a1 = t11 at *
    generalize a1 * a2 = t12 at *
    generalize a1 * a3 = t13 at *
    generalize a2 * a2 = t22 at *
    generalize a2 * a3 = t23 at *
    generalize a3 * a3 = t33 at *
    generalize a3 * a1 = t31 at *
    generalize a3 * a2 = t32 at *
    have f1 : o1 / 9223372036854775808 = r2 := by clear hlim e hlt xm98 xm99; omega
    have f2 : m2 / 9223372036854775808 = r3 := by clear hlim e hlt xm98 xm99; omega
    generalize o1 / 9223372036854775808 = g1 at *
    generalize m2 / 9223372036854775808 = g2 at *
    subst f1
    subst f2
    have hsum : t00 + 18446744073709551616 * t01 + 340282366920938463463374607431768211456 * t02 + 6277101735386680763835789423207666416102355444464034512896 * t03 + 18446744073709551616 * t01 + 340282366920938463463374607431768211456 * t11 + 6277101735386680763835789423207666416102355444464034512896 * t12 + 115792089237316195423570985008687907853269984665640564039457584007913129639936 * t13 + 340282366920938463463374607431768211456 * t02 + 6277101735386680763835789423207666416102355444464034512896 * t12 + 115792089237316195423570985008687907853269984665640564039457584007913129639936 * t22 + 2135987035920910082395021706169552114602704522356652769947041607822219725780640550022962086936576 * t23 + 6277101735386680763835789423207666416102355444464034512896 * t03 + 115792089237316195423570985008687907853269984665640564039457584007913129639936 * t31 + 2135987035920910082395021706169552114602704522356652769947041607822219725780640550022962086936576 * t32 + 39402006196394479212279040100143613805079739270465446667948293404245721771497210611414266254884915640806627990306816 * t33 = lval [p0, v1, v2, t4] + 18446744073709551616 ^ 4 * (2 * r1 + r4 + q4 + t13 + t31 + t22 + 18446744073709551616 * (t23 + t32) + 340282366920938463463374607431768211456 * t33) := by
      simp only [lval, Nat.mul_zero, Nat.add_zero]
      clear hlim e hlt z1 z2 z3 z4 z5 z6 z7
      omega
    rw [hsum, Nat.add_mul_mod_self_left, Nat.mod_eq_of_lt hlt]
  have HL98 := hid e98
  have HL99 := hid e99
  clear e98 xl98 xm98 e99 xl99 xm99
  go_wp2_with (first
    | ((with_reducible apply W_loadCell); rfl; (first | with_reducible exact M.r0 | with_reducible exact M.r1 | with_reducible exact M.r2 | with_reducible exact M.r3 | with_reducible exact M.r4 | with_reducible exact M.r5 | with_reducible exact M.r6 | assumption | exact M.kept.row (by assumption) (by simp)); (first | exact get_map (by assumption) | exact get_map rfl | rfl); exact Salg.underlying23; rfl; simp only [Act.put, List.setIfInBounds_toArray, List.set_cons_zero, List.set_cons_succ])
    | ((with_reducible apply W_storeK (b := c3) (vs := (([p0, v1, v2, t4] : List Nat).map n64).toArray)); rfl; (rw [HL98.out, HL99.out]; rfl); exact M.r0; exact size25; rfl; exact one64 _; intro w3 K hr3; replace M := Mem.callPut (L1 := []) M (Or.inr (by assumption)) K hr3; clear K hr3; simp only [List.cons_append, List.nil_append] at M))
  exact ret_cell1 Salg.results137 rfl M.r0 Salg.underlying25 rfl size25 rfl ⟨by rw [← HE.out], M.kept⟩
end Go.Proofs.YgcsalGreat

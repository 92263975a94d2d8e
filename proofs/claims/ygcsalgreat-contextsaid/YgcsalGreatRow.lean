/-
  The walks of u256.row and u256.Mul512.
-/
import Derived.Test.YgcsalGreatRound
import Derived.Test.YgcsalGreatPlainH
import Derived.Test.YgcsalGreatLaws2
set_option linter.unusedSimpArgs false
namespace Go.Own
theorem results_tmp5 {fn : Func} {t u v x y : Tmp} (h : fn.results = #[.tmp t, .tmp u, .tmp v, .tmp x, .tmp y]) (tmps : Array Value) (P : Program) (w : World) :
    (results fn tmps).run P w = .ok (.tuple #[(tmps[t]?).getD undef, (tmps[u]?).getD undef, (tmps[v]?).getD undef, (tmps[x]?).getD undef, (tmps[y]?).getD undef]) w := by
  simp [results, h]
end Go.Own
namespace Go.Proofs.YgcsalGreat
open Go.RowKit Go.Own
theorem mul64_ex (x y : Nat) (hx : x < 18446744073709551616) (hy : y < 18446744073709551616) (w : World) :
    Calls Salg.prog 129 #[.int .u64 x, .int .u64 y] w fun e w' => ∃ h l, e = .returned (.tuple #[n64 h, n64 l]) ∧ h < 18446744073709551616 ∧ l < 18446744073709551616 ∧ x * y = h * 18446744073709551616 + l ∧ x * y ≤ 340282366920938463426481119284349108225 ∧ w' = w := by
  have hp : x * y ≤ 340282366920938463426481119284349108225 := Nat.mul_le_mul (show x ≤ 18446744073709551615 by omega) (show y ≤ 18446744073709551615 by omega)
  refine (mul64_any x y hx hy w).mono ?_
  rintro e w' ⟨rfl, rfl⟩
  generalize x * y = p at *
  exact ⟨_, _, rfl, by omega, by omega, by omega, hp, rfl⟩
theorem add64_ex (x y c : Nat) (hx : x < 18446744073709551616) (hy : y < 18446744073709551616) (hc : c ≤ 1) (w : World) :
    Calls Salg.prog 130 #[.int .u64 x, .int .u64 y, .int .u64 c] w fun e w' => ∃ r k, e = .returned (.tuple #[n64 r, n64 k]) ∧ r < 18446744073709551616 ∧ k ≤ 1 ∧ x + y + c = r + 18446744073709551616 * k ∧ w' = w := by
  refine (add64_any x y c hc w).mono ?_
  rintro e w' ⟨rfl, rfl⟩
  exact ⟨_, _, rfl, by omega, by omega, by omega, rfl⟩

set_option maxHeartbeats 4000000 in
set_option maxRecDepth 100000 in
theorem row_any (b t x b0 b1 b2 b3 s0 s1 s2 s3 : Nat) (w : World) (hr : w.heap[b]? = some (R64 t [b0, b1, b2, b3])) (hx : x < 18446744073709551616) (h0 : b0 < 18446744073709551616) (h1 : b1 < 18446744073709551616) (h2 : b2 < 18446744073709551616) (h3 : b3 < 18446744073709551616)
    (g0 : s0 < 18446744073709551616) (g1 : s1 < 18446744073709551616) (g2 : s2 < 18446744073709551616) (g3 : s3 < 18446744073709551616) :
    Calls Salg.prog 202 #[.int .u64 x, .pointer (some ⟨b, 0, none⟩), .int .u64 s0, .int .u64 s1, .int .u64 s2, .int .u64 s3] w fun e w' =>
      ∃ t0 t1 t2 t3 t4, e = .returned (.tuple #[n64 t0, n64 t1, n64 t2, n64 t3, n64 t4]) ∧ t0 < 18446744073709551616 ∧ t1 < 18446744073709551616 ∧ t2 < 18446744073709551616 ∧ t3 < 18446744073709551616 ∧ t4 < 18446744073709551616 ∧
        lval [t0, t1, t2, t3, t4] = x * lval [b0, b1, b2, b3] + lval [s0, s1, s2, s3] ∧ w' = w := by
  go_enter Salg.func202, Salg.ntmps202
  go_wp2_with ((with_reducible apply W_loadCell); rfl; exact hr; exact get_map rfl; exact Salg.underlying23; rfl; simp only [Act.put, List.setIfInBounds_toArray, List.set_cons_zero, List.set_cons_succ])
  refine (mul64_ex x b0 hx h0 _).mono ?_
  rintro e w1 ⟨h0', l0, rfl, xhb0, xlb0, xe0, xp0, rfl⟩
  have HHB0 := hid xhb0
  have HLB0 := hid xlb0
  have HE0 := hid xe0
  have HP0 := hid xp0
  clear xhb0 xlb0 xe0 xp0
  go_wp2_with ((with_reducible apply W_loadCell); rfl; exact hr; exact get_map rfl; exact Salg.underlying23; rfl; simp only [Act.put, List.setIfInBounds_toArray, List.set_cons_zero, List.set_cons_succ])
  refine (mul64_ex x b1 hx h1 _).mono ?_
  rintro e w2 ⟨h1', l1, rfl, xhb1, xlb1, xe1, xp1, rfl⟩
  have HHB1 := hid xhb1
  have HLB1 := hid xlb1
  have HE1 := hid xe1
  have HP1 := hid xp1
  clear xhb1 xlb1 xe1 xp1
  go_wp2_with ((with_reducible apply W_loadCell); rfl; exact hr; exact get_map rfl; exact Salg.underlying23; rfl; simp only [Act.put, List.setIfInBounds_toArray, List.set_cons_zero, List.set_cons_succ])
  refine (mul64_ex x b2 hx h2 _).mono ?_
  rintro e w3 ⟨h2', l2, rfl, xhb2, xlb2, xe2, xp2, rfl⟩
  have HHB2 := hid xhb2
  have HLB2 := hid xlb2
  have HE2 := hid xe2
  have HP2 := hid xp2
  clear xhb2 xlb2 xe2 xp2
  go_wp2_with ((with_reducible apply W_loadCell); rfl; exact hr; exact get_map rfl; exact Salg.underlying23; rfl; simp only [Act.put, List.setIfInBounds_toArray, List.set_cons_zero, List.set_cons_succ])
  refine (mul64_ex x b3 hx h3 _).mono ?_
  rintro e w4 ⟨h3', l3, rfl, xhb3, xlb3, xe3, xp3, rfl⟩
  have HHB3 := hid xhb3
  have HLB3 := hid xlb3
  have HE3 := hid xe3
  have HP3 := hid xp3
  clear xhb3 xlb3 xe3 xp3
  go_wp2_with fail
  refine (add64_ex l1 h0' 0 HLB1.out HHB0.out (by decide) _).mono ?_
  rintro e v1 ⟨m1, c1, rfl, xr1, xk1, xs1, rfl⟩
  have HR1 := hid xr1
  have HK1 := hid xk1
  have HS1 := hid xs1
  clear xr1 xk1 xs1
  go_wp2_with fail
  refine (add64_ex l2 h1' c1 HLB2.out HHB1.out HK1.out _).mono ?_
  rintro e v2 ⟨m2, c2, rfl, xr2, xk2, xs2, rfl⟩
  have HR2 := hid xr2
  have HK2 := hid xk2
  have HS2 := hid xs2
  clear xr2 xk2 xs2
  go_wp2_with fail
  refine (add64_ex l3 h2' c2 HLB3.out HHB2.out HK2.out _).mono ?_
  rintro e v3 ⟨m3, c3, rfl, xr3, xk3, xs3, rfl⟩
  have HR3 := hid xr3
  have HK3 := hid xk3
  have HS3 := hid xs3
  clear xr3 xk3 xs3
  have hh3 : h3' + c3 < 18446744073709551616 := by have := HP3.out; have := HE3.out; have := HK3.out; omega
  go_wp2_with fail
  refine (add64_ex l0 s0 0 HLB0.out g0 (by decide) _).mono ?_
  rintro e v4 ⟨t0, d0, rfl, xr4, xk4, xs4, rfl⟩
  have HR4 := hid xr4
  have HK4 := hid xk4
  have HS4 := hid xs4
  clear xr4 xk4 xs4
  go_wp2_with fail
  refine (add64_ex m1 s1 d0 HR1.out g1 HK4.out _).mono ?_
  rintro e v5 ⟨t1, d1, rfl, xr5, xk5, xs5, rfl⟩
  have HR5 := hid xr5
  have HK5 := hid xk5
  have HS5 := hid xs5
  clear xr5 xk5 xs5
  go_wp2_with fail
  refine (add64_ex m2 s2 d1 HR2.out g2 HK5.out _).mono ?_
  rintro e v6 ⟨t2, d2, rfl, xr6, xk6, xs6, rfl⟩
  have HR6 := hid xr6
  have HK6 := hid xk6
  have HS6 := hid xs6
  clear xr6 xk6 xs6
  go_wp2_with fail
  refine (add64_ex m3 s3 d2 HR3.out g3 HK6.out _).mono ?_
  rintro e v7 ⟨t3, d3, rfl, xr7, xk7, xs7, rfl⟩
  have HR7 := hid xr7
  have HK7 := hid xk7
  have HS7 := hid xs7
  clear xr7 xk7 xs7
  have hsum : lval [t0, t1, t2, t3, h3' + c3 + d3] = x * lval [b0, b1, b2, b3] + lval [s0, s1, s2, s3] ∧ h3' + c3 + d3 < 18446744073709551616 := by
    have e : x * lval [b0, b1, b2, b3] = x * b0 + 18446744073709551616 * (x * b1) + 18446744073709551616 * (18446744073709551616 * (x * b2)) + 18446744073709551616 * (18446744073709551616 * (18446744073709551616 * (x * b3))) := by
      simp only [lval, Nat.mul_zero, Nat.add_zero]
      simp only [Nat.mul_add, Nat.mul_left_comm x 18446744073709551616, ← Nat.add_assoc]
    rw [e]
    have a0 := HE0.out; have a1 := HE1.out; have a2 := HE2.out; have a3 := HE3.out
    have q0 := HP0.out; have q1 := HP1.out; have q2 := HP2.out; have q3 := HP3.out
    have z1 := HS1.out; have z2 := HS2.out; have z3 := HS3.out; have z4 := HS4.out; have z5 := HS5.out; have z6 := HS6.out; have z7 := HS7.out
    generalize x * b0 = p0 at *
    generalize x * b1 = p1 at *
    generalize x * b2 = p2 at *
    generalize x * b3 = p3 at *
    simp only [lval, Nat.mul_zero, Nat.add_zero]
    omega
  have HSUM := hid hsum.1
  have hlt := hsum.2
  clear hsum
  go_wp2_with fail
  refine bodyPost_ret (results_tmp5 Salg.results202 _ _ _) rfl ?_
  exact ⟨t0, t1, t2, t3, h3' + c3 + d3, by go_num, HR4.out, HR5.out, HR6.out, HR7.out, hlt, HSUM.out, rfl⟩

set_option maxHeartbeats 4000000 in
set_option maxRecDepth 100000 in
theorem mul512_any (xs ys : List Nat) (w : World) (hx : xs.length = 4) (hy : ys.length = 4) (hLx : Limbs xs) (hLy : Limbs ys) :
    Calls Salg.prog 135 #[A64 xs, A64 ys] w fun e w' => e = .returned (A64 (nl 8 (lval xs * lval ys))) ∧ Kept [] w w' := by
  have M := Mem.start w []
  obtain ⟨a0, a1, a2, a3, rfl⟩ : ∃ a b c d, xs = [a, b, c, d] := by
    match xs, hx with
    | [a, b, c, d], _ => exact ⟨a, b, c, d, rfl⟩
  obtain ⟨b0, b1, b2, b3, rfl⟩ : ∃ a b c d, ys = [a, b, c, d] := by
    match ys, hy with
    | [a, b, c, d], _ => exact ⟨a, b, c, d, rfl⟩
  have ha0 : a0 < 18446744073709551616 := hLx _ (by simp)
  have ha1 : a1 < 18446744073709551616 := hLx _ (by simp)
  have ha2 : a2 < 18446744073709551616 := hLx _ (by simp)
  have ha3 : a3 < 18446744073709551616 := hLx _ (by simp)
  have HRW := hid (fun (b x s0 s1 s2 s3 : Nat) (w : World) (hr : w.heap[b]? = some (R64 25 [b0, b1, b2, b3])) (hx : x < 18446744073709551616) => row_any b 25 x b0 b1 b2 b3 s0 s1 s2 s3 w hr hx (hLy _ (by simp)) (hLy _ (by simp)) (hLy _ (by simp)) (hLy _ (by simp)))
  clear hLx hLy
  go_enter Salg.func135, Salg.ntmps135
  go_wp2_with (first
    | ((with_reducible apply L_box (d := 2) M); rfl; clear M; intro c1 w1 hc1 M; simp only [Act.put, List.setIfInBounds_toArray, List.set_cons_zero, List.set_cons_succ])
    | ((with_reducible apply L_box (d := 3) M); rfl; clear M; intro c2 w1 hc2 M; simp only [Act.put, List.setIfInBounds_toArray, List.set_cons_zero, List.set_cons_succ])
    | ((with_reducible apply L_allocA M); exact zero183; clear M; intro c3 w1 hc3 M; simp only [Act.put, List.setIfInBounds_toArray, List.set_cons_zero, List.set_cons_succ])
    | ((with_reducible apply W_loadCell); rfl; (first | with_reducible exact M.r0 | with_reducible exact M.r1 | with_reducible exact M.r2 | with_reducible exact M.r3 | with_reducible exact M.r4 | with_reducible exact M.r5 | with_reducible exact M.r6 | assumption | exact M.kept.row (by assumption) (by simp)); (first | exact get_map (by assumption) | exact get_map rfl | rfl); exact Salg.underlying23; rfl; simp only [Act.put, List.setIfInBounds_toArray, List.set_cons_zero, List.set_cons_succ]))
  refine (HRW.out c2 a0 0 0 0 0 _ M.r1 ha0 (by decide) (by decide) (by decide) (by decide)).mono ?_
  rintro e w ⟨p0, s1, s2, s3, s4, rfl, k00, k01, k02, k03, k04, xq0, rfl⟩
  have HQ0 := hid xq0
  clear xq0
  go_wp2_with ((with_reducible apply W_loadCell); rfl; (first | with_reducible exact M.r0 | with_reducible exact M.r1 | with_reducible exact M.r2 | with_reducible exact M.r3 | with_reducible exact M.r4 | with_reducible exact M.r5 | with_reducible exact M.r6 | assumption | exact M.kept.row (by assumption) (by simp)); (first | exact get_map (by assumption) | exact get_map rfl | rfl); exact Salg.underlying23; rfl; simp only [Act.put, List.setIfInBounds_toArray, List.set_cons_zero, List.set_cons_succ])
  refine (HRW.out c2 a1 s1 s2 s3 s4 _ M.r1 ha1 k01 k02 k03 k04).mono ?_
  rintro e w ⟨p1, u2, u3, u4, u5, rfl, k10, k11, k12, k13, k14, xq1, rfl⟩
  have HQ1 := hid xq1
  clear xq1
  go_wp2_with ((with_reducible apply W_loadCell); rfl; (first | with_reducible exact M.r0 | with_reducible exact M.r1 | with_reducible exact M.r2 | with_reducible exact M.r3 | with_reducible exact M.r4 | with_reducible exact M.r5 | with_reducible exact M.r6 | assumption | exact M.kept.row (by assumption) (by simp)); (first | exact get_map (by assumption) | exact get_map rfl | rfl); exact Salg.underlying23; rfl; simp only [Act.put, List.setIfInBounds_toArray, List.set_cons_zero, List.set_cons_succ])
  refine (HRW.out c2 a2 u2 u3 u4 u5 _ M.r1 ha2 k11 k12 k13 k14).mono ?_
  rintro e w ⟨p2, v3, v4, v5, v6, rfl, k20, k21, k22, k23, k24, xq2, rfl⟩
  have HQ2 := hid xq2
  clear xq2
  go_wp2_with ((with_reducible apply W_loadCell); rfl; (first | with_reducible exact M.r0 | with_reducible exact M.r1 | with_reducible exact M.r2 | with_reducible exact M.r3 | with_reducible exact M.r4 | with_reducible exact M.r5 | with_reducible exact M.r6 | assumption | exact M.kept.row (by assumption) (by simp)); (first | exact get_map (by assumption) | exact get_map rfl | rfl); exact Salg.underlying23; rfl; simp only [Act.put, List.setIfInBounds_toArray, List.set_cons_zero, List.set_cons_succ])
  refine (HRW.out c2 a3 v3 v4 v5 v6 _ M.r1 ha3 k21 k22 k23 k24).mono ?_
  rintro e w ⟨p3, x4, x5, x6, x7, rfl, k30, k31, k32, k33, k34, xq3, rfl⟩
  have HQ3 := hid xq3
  clear xq3
  have HE : Hid ([p0, p1, p2, p3, x4, x5, x6, x7] = nl 8 (lval [a0, a1, a2, a3] * lval [b0, b1, b2, b3])) := by
    refine eq_nl (by intro y hy; simp at hy; omega) rfl ?_
    have e : lval [a0, a1, a2, a3] * lval [b0, b1, b2, b3] = a0 * lval [b0, b1, b2, b3] + 18446744073709551616 * (a1 * lval [b0, b1, b2, b3]) + 18446744073709551616 * (18446744073709551616 * (a2 * lval [b0, b1, b2, b3])) + 18446744073709551616 * (18446744073709551616 * (18446744073709551616 * (a3 * lval [b0, b1, b2, b3]))) := by
      generalize lval [b0, b1, b2, b3] = V
      simp only [lval, Nat.mul_zero, Nat.add_zero]
      simp only [Nat.add_mul, Nat.mul_assoc, Nat.mul_add, ← Nat.add_assoc]
    rw [e]
    have z0 := HQ0.out; have z1 := HQ1.out; have z2 := HQ2.out; have z3 := HQ3.out
    generalize a0 * lval [b0, b1, b2, b3] = A0 at *
    generalize a1 * lval [b0, b1, b2, b3] = A1 at *
    generalize a2 * lval [b0, b1, b2, b3] = A2 at *
    generalize a3 * lval [b0, b1, b2, b3] = A3 at *
    simp only [lval, Nat.mul_zero, Nat.add_zero] at *
    omega
  clear HQ0 HQ1 HQ2 HQ3
  go_wp2_with ((with_reducible apply W_storeK (b := c3) (vs := (([p0, p1, p2, p3, x4, x5, x6, x7] : List Nat).map n64).toArray)); rfl; rfl; exact M.r0; exact size183; rfl; exact one64 _; intro w3 K hr3; replace M := Mem.callPut (L1 := []) M (Or.inr (by assumption)) K hr3; clear K hr3; simp only [List.cons_append, List.nil_append] at M)
  exact ret_cell1 Salg.results135 rfl M.r0 Salg.underlying183 rfl size183 rfl ⟨by rw [← HE.out], M.kept⟩
end Go.Proofs.YgcsalGreat

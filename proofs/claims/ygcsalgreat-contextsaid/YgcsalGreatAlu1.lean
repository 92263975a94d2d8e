/-
  The walks of u256: AddOver, SubUnder, Add, Sub.
-/
import Derived.Test.YgcsalGreatRow
import Derived.Test.YgcsalGreatDivMidRight
set_option linter.unusedSimpArgs false
namespace Go.Own
theorem ret_ct {P : Program} {fn : Func} {R : Ending → World → Prop} {a : Act} {w : World} {t u : Tmp} {ty tt : TypeId} {b : Nat} {cs : Array Value} {fr : Nat × Nat} {d : TypeDesc} (h : fn.results = #[.cell t ty, .tmp u])
    (hp : a.tmps.getD t undef = .pointer (some ⟨b, 0, none⟩)) (hr : w.heap[b]? = some (.cells cs tt fr)) (hu : P.underlying ty = some d) (hrow : d.isRow = true) (hi : (P.info? ty).map (·.size) = some cs.size)
    (hd : a.defers = []) (k : R (.returned (.tuple #[.agg cs, a.tmps.getD u undef])) w) : bodyPost P fn R .ret a w := by
  refine bodyPost_ret ?_ hd k
  have := run_loadVar_row (P := P) hr hu hrow hi (Nat.le_of_eq (Nat.zero_add _))
  simp at this
  rw [Array.getD_eq_getD_getElem?] at hp
  simp only [results, h]
  simp [hp, asAddr, this]
theorem nl_of_mod {l : List Nat} {k v : Nat} (h : Limbs l) (hk : l.length = k) (hv : lval l = v % 18446744073709551616 ^ k) : l = nl k v := by
  rw [eq_nl h hk hv]
  clear h hk hv
  induction k generalizing v with
  | zero => rfl
  | succ k ih =>
    simp only [nl]
    rw [pow64_succ, Nat.mod_mul_right_mod, Nat.mod_mul_right_div_self, ih]
theorem four {xs : List Nat} (h : xs.length = 4) : ∃ a b c d, xs = [a, b, c, d] := by
  match xs, h with
  | [a, b, c, d], _ => exact ⟨a, b, c, d, rfl⟩
end Go.Own
namespace Go.Proofs.YgcsalGreat
open Go.RowKit Go.Own
theorem sub64_ex (x y c : Nat) (hx : x < 18446744073709551616) (hy : y < 18446744073709551616) (hc : c ≤ 1) (w : World) :
    Calls Salg.prog 156 #[.int .u64 x, .int .u64 y, .int .u64 c] w fun e w' => ∃ r k, e = .returned (.tuple #[n64 r, n64 k]) ∧ r < 18446744073709551616 ∧ k ≤ 1 ∧ r + y + c = x + 18446744073709551616 * k ∧ w' = w := by
  refine (sub64_any x y c hc w).mono ?_
  rintro e w' ⟨rfl, rfl⟩
  exact ⟨_, _, rfl, by omega, by split <;> omega, sub_step hx hy hc, rfl⟩

set_option maxHeartbeats 2000000 in
set_option maxRecDepth 100000 in
theorem wAddOver (xs ys : List Nat) (w : World) (hx : xs.length = 4) (hy : ys.length = 4) (hLx : Limbs xs) (hLy : Limbs ys) :
    Calls Salg.prog 66 #[A64 xs, A64 ys] w fun e w' => e = .returned (.tuple #[A64 (nl 4 (lval xs + lval ys)), .bool (decide (18446744073709551616 ^ 4 ≤ lval xs + lval ys))]) ∧ Kept [] w w' := by
  have M := Mem.start w []
  obtain ⟨a0, a1, a2, a3, rfl⟩ := four hx
  obtain ⟨b0, b1, b2, b3, rfl⟩ := four hy
  have ha0 : a0 < 18446744073709551616 := hLx _ (by simp)
  have ha1 : a1 < 18446744073709551616 := hLx _ (by simp)
  have ha2 : a2 < 18446744073709551616 := hLx _ (by simp)
  have ha3 : a3 < 18446744073709551616 := hLx _ (by simp)
  have hb0 : b0 < 18446744073709551616 := hLy _ (by simp)
  have hb1 : b1 < 18446744073709551616 := hLy _ (by simp)
  have hb2 : b2 < 18446744073709551616 := hLy _ (by simp)
  have hb3 : b3 < 18446744073709551616 := hLy _ (by simp)
  clear hLx hLy
  go_enter Salg.func66, Salg.ntmps66
  go_wp2_with (first
    | ((with_reducible apply L_box (d := 2) M); rfl; clear M; intro c1 w1 hc1 M; simp only [Act.put, List.setIfInBounds_toArray, List.set_cons_zero, List.set_cons_succ])
    | ((with_reducible apply L_box (d := 3) M); rfl; clear M; intro c2 w1 hc2 M; simp only [Act.put, List.setIfInBounds_toArray, List.set_cons_zero, List.set_cons_succ])
    | ((with_reducible apply L_allocA (d := 4) M); exact zero25; clear M; intro c3 w1 hc3 M; simp only [Act.put, List.setIfInBounds_toArray, List.set_cons_zero, List.set_cons_succ])
    | ((with_reducible apply W_loadCell); rfl; (first | with_reducible exact M.r0 | with_reducible exact M.r1 | with_reducible exact M.r2 | with_reducible exact M.r3 | with_reducible exact M.r4 | with_reducible exact M.r5 | with_reducible exact M.r6 | assumption | exact M.kept.row (by assumption) (by simp)); (first | exact get_map (by assumption) | exact get_map rfl | rfl); exact Salg.underlying23; rfl; simp only [Act.put, List.setIfInBounds_toArray, List.set_cons_zero, List.set_cons_succ]))
  refine (add64_ex a0 b0 0 ha0 hb0 (by decide) _).mono ?_
  rintro e w ⟨r0, k0, rfl, xr0, xk0, xs0, rfl⟩
  have HR0 := hid xr0
  have HK0 := hid xk0
  have HS0 := hid xs0
  clear xr0 xk0 xs0
  go_wp2_with ((with_reducible apply W_loadCell); rfl; (first | with_reducible exact M.r0 | with_reducible exact M.r1 | with_reducible exact M.r2 | with_reducible exact M.r3 | with_reducible exact M.r4 | with_reducible exact M.r5 | with_reducible exact M.r6 | assumption | exact M.kept.row (by assumption) (by simp)); (first | exact get_map (by assumption) | exact get_map rfl | rfl); exact Salg.underlying23; rfl; simp only [Act.put, List.setIfInBounds_toArray, List.set_cons_zero, List.set_cons_succ])
  refine (add64_ex a1 b1 k0 ha1 hb1 HK0.out _).mono ?_
  rintro e w ⟨r1, k1, rfl, xr1, xk1, xs1, rfl⟩
  have HR1 := hid xr1
  have HK1 := hid xk1
  have HS1 := hid xs1
  clear xr1 xk1 xs1
  go_wp2_with ((with_reducible apply W_loadCell); rfl; (first | with_reducible exact M.r0 | with_reducible exact M.r1 | with_reducible exact M.r2 | with_reducible exact M.r3 | with_reducible exact M.r4 | with_reducible exact M.r5 | with_reducible exact M.r6 | assumption | exact M.kept.row (by assumption) (by simp)); (first | exact get_map (by assumption) | exact get_map rfl | rfl); exact Salg.underlying23; rfl; simp only [Act.put, List.setIfInBounds_toArray, List.set_cons_zero, List.set_cons_succ])
  refine (add64_ex a2 b2 k1 ha2 hb2 HK1.out _).mono ?_
  rintro e w ⟨r2, k2, rfl, xr2, xk2, xs2, rfl⟩
  have HR2 := hid xr2
  have HK2 := hid xk2
  have HS2 := hid xs2
  clear xr2 xk2 xs2
  go_wp2_with ((with_reducible apply W_loadCell); rfl; (first | with_reducible exact M.r0 | with_reducible exact M.r1 | with_reducible exact M.r2 | with_reducible exact M.r3 | with_reducible exact M.r4 | with_reducible exact M.r5 | with_reducible exact M.r6 | assumption | exact M.kept.row (by assumption) (by simp)); (first | exact get_map (by assumption) | exact get_map rfl | rfl); exact Salg.underlying23; rfl; simp only [Act.put, List.setIfInBounds_toArray, List.set_cons_zero, List.set_cons_succ])
  refine (add64_ex a3 b3 k2 ha3 hb3 HK2.out _).mono ?_
  rintro e w ⟨r3, k3, rfl, xr3, xk3, xs3, rfl⟩
  have HR3 := hid xr3
  have HK3 := hid xk3
  have HS3 := hid xs3
  clear xr3 xk3 xs3
  have HE : Hid ([r0, r1, r2, r3] = nl 4 (lval [a0, a1, a2, a3] + lval [b0, b1, b2, b3]) ∧ (((k3 : Int) != 0) = decide (18446744073709551616 ^ 4 ≤ lval [a0, a1, a2, a3] + lval [b0, b1, b2, b3]))) := by
    have z0 := HS0.out; have z1 := HS1.out; have z2 := HS2.out; have z3 := HS3.out
    have q0 := HR0.out; have q1 := HR1.out; have q2 := HR2.out; have q3 := HR3.out; have q4 := HK3.out
    have hlim : Limbs [r0, r1, r2, r3] := by intro y hy; simp at hy; omega
    have hlb : Limbs [b0, b1, b2, b3] := by intro y hy; simp at hy; omega
    have hsum : lval [a0, a1, a2, a3] + lval [b0, b1, b2, b3] = lval [r0, r1, r2, r3] + 18446744073709551616 ^ 4 * k3 := by
      simp only [lval, Nat.mul_zero, Nat.add_zero]
      omega
    have hrl : lval [r0, r1, r2, r3] < 18446744073709551616 ^ 4 := lval_lt hlim
    have hbl : lval [b0, b1, b2, b3] < 18446744073709551616 ^ 4 := lval_lt hlb
    clear z0 z1 z2 z3 q0 q1 q2 q3
    refine ⟨nl_of_mod (k := 4) hlim rfl ?_, ?_⟩
    · generalize lval [a0, a1, a2, a3] = A at *
      generalize lval [b0, b1, b2, b3] = B at *
      generalize lval [r0, r1, r2, r3] = R at *
      omega
    · generalize lval [a0, a1, a2, a3] = A at *
      generalize lval [b0, b1, b2, b3] = B at *
      generalize lval [r0, r1, r2, r3] = R at *
      rw [Bool.eq_iff_iff]
      simp only [bne_iff_ne, ne_eq, decide_eq_true_eq]
      omega
  clear HS0 HS1 HS2 HS3
  go_wp2_with ((with_reducible apply W_storeK (b := c3) (vs := (([r0, r1, r2, r3] : List Nat).map n64).toArray)); rfl; rfl; exact M.r0; exact size25; (first | rfl | simp []); exact one64 _; intro w3 K hr3; replace M := Mem.callPut (L1 := []) M (Or.inr (by assumption)) K hr3; clear K hr3; simp only [List.cons_append, List.nil_append] at M)
  refine ret_ct Salg.results66 rfl M.r0 Salg.underlying25 rfl size25 rfl ⟨?_, M.kept⟩
  rw [← HE.out.1, ← HE.out.2]
  rfl

set_option maxHeartbeats 2000000 in
set_option maxRecDepth 100000 in
theorem wSubUnder (xs ys : List Nat) (w : World) (hx : xs.length = 4) (hy : ys.length = 4) (hLx : Limbs xs) (hLy : Limbs ys) :
    Calls Salg.prog 71 #[A64 xs, A64 ys] w fun e w' => e = .returned (.tuple #[A64 (nl 4 (lval xs + 18446744073709551616 ^ 4 - lval ys)), .bool (decide (lval xs < lval ys))]) ∧ Kept [] w w' := by
  have M := Mem.start w []
  obtain ⟨a0, a1, a2, a3, rfl⟩ := four hx
  obtain ⟨b0, b1, b2, b3, rfl⟩ := four hy
  have ha0 : a0 < 18446744073709551616 := hLx _ (by simp)
  have ha1 : a1 < 18446744073709551616 := hLx _ (by simp)
  have ha2 : a2 < 18446744073709551616 := hLx _ (by simp)
  have ha3 : a3 < 18446744073709551616 := hLx _ (by simp)
  have hb0 : b0 < 18446744073709551616 := hLy _ (by simp)
  have hb1 : b1 < 18446744073709551616 := hLy _ (by simp)
  have hb2 : b2 < 18446744073709551616 := hLy _ (by simp)
  have hb3 : b3 < 18446744073709551616 := hLy _ (by simp)
  clear hLx hLy
  go_enter Salg.func71, Salg.ntmps71
  go_wp2_with (first
    | ((with_reducible apply L_box (d := 2) M); rfl; clear M; intro c1 w1 hc1 M; simp only [Act.put, List.setIfInBounds_toArray, List.set_cons_zero, List.set_cons_succ])
    | ((with_reducible apply L_box (d := 3) M); rfl; clear M; intro c2 w1 hc2 M; simp only [Act.put, List.setIfInBounds_toArray, List.set_cons_zero, List.set_cons_succ])
    | ((with_reducible apply L_allocA (d := 4) M); exact zero25; clear M; intro c3 w1 hc3 M; simp only [Act.put, List.setIfInBounds_toArray, List.set_cons_zero, List.set_cons_succ])
    | ((with_reducible apply W_loadCell); rfl; (first | with_reducible exact M.r0 | with_reducible exact M.r1 | with_reducible exact M.r2 | with_reducible exact M.r3 | with_reducible exact M.r4 | with_reducible exact M.r5 | with_reducible exact M.r6 | assumption | exact M.kept.row (by assumption) (by simp)); (first | exact get_map (by assumption) | exact get_map rfl | rfl); exact Salg.underlying23; rfl; simp only [Act.put, List.setIfInBounds_toArray, List.set_cons_zero, List.set_cons_succ]))
  refine (sub64_ex a0 b0 0 ha0 hb0 (by decide) _).mono ?_
  rintro e w ⟨r0, k0, rfl, xr0, xk0, xs0, rfl⟩
  have HR0 := hid xr0
  have HK0 := hid xk0
  have HS0 := hid xs0
  clear xr0 xk0 xs0
  go_wp2_with ((with_reducible apply W_loadCell); rfl; (first | with_reducible exact M.r0 | with_reducible exact M.r1 | with_reducible exact M.r2 | with_reducible exact M.r3 | with_reducible exact M.r4 | with_reducible exact M.r5 | with_reducible exact M.r6 | assumption | exact M.kept.row (by assumption) (by simp)); (first | exact get_map (by assumption) | exact get_map rfl | rfl); exact Salg.underlying23; rfl; simp only [Act.put, List.setIfInBounds_toArray, List.set_cons_zero, List.set_cons_succ])
  refine (sub64_ex a1 b1 k0 ha1 hb1 HK0.out _).mono ?_
  rintro e w ⟨r1, k1, rfl, xr1, xk1, xs1, rfl⟩
  have HR1 := hid xr1
  have HK1 := hid xk1
  have HS1 := hid xs1
  clear xr1 xk1 xs1
  go_wp2_with ((with_reducible apply W_loadCell); rfl; (first | with_reducible exact M.r0 | with_reducible exact M.r1 | with_reducible exact M.r2 | with_reducible exact M.r3 | with_reducible exact M.r4 | with_reducible exact M.r5 | with_reducible exact M.r6 | assumption | exact M.kept.row (by assumption) (by simp)); (first | exact get_map (by assumption) | exact get_map rfl | rfl); exact Salg.underlying23; rfl; simp only [Act.put, List.setIfInBounds_toArray, List.set_cons_zero, List.set_cons_succ])
  refine (sub64_ex a2 b2 k1 ha2 hb2 HK1.out _).mono ?_
  rintro e w ⟨r2, k2, rfl, xr2, xk2, xs2, rfl⟩
  have HR2 := hid xr2
  have HK2 := hid xk2
  have HS2 := hid xs2
  clear xr2 xk2 xs2
  go_wp2_with ((with_reducible apply W_loadCell); rfl; (first | with_reducible exact M.r0 | with_reducible exact M.r1 | with_reducible exact M.r2 | with_reducible exact M.r3 | with_reducible exact M.r4 | with_reducible exact M.r5 | with_reducible exact M.r6 | assumption | exact M.kept.row (by assumption) (by simp)); (first | exact get_map (by assumption) | exact get_map rfl | rfl); exact Salg.underlying23; rfl; simp only [Act.put, List.setIfInBounds_toArray, List.set_cons_zero, List.set_cons_succ])
  refine (sub64_ex a3 b3 k2 ha3 hb3 HK2.out _).mono ?_
  rintro e w ⟨r3, k3, rfl, xr3, xk3, xs3, rfl⟩
  have HR3 := hid xr3
  have HK3 := hid xk3
  have HS3 := hid xs3
  clear xr3 xk3 xs3
  have HE : Hid ([r0, r1, r2, r3] = nl 4 (lval [a0, a1, a2, a3] + 18446744073709551616 ^ 4 - lval [b0, b1, b2, b3]) ∧ (((k3 : Int) != 0) = decide (lval [a0, a1, a2, a3] < lval [b0, b1, b2, b3]))) := by
    have z0 := HS0.out; have z1 := HS1.out; have z2 := HS2.out; have z3 := HS3.out
    have q0 := HR0.out; have q1 := HR1.out; have q2 := HR2.out; have q3 := HR3.out; have q4 := HK3.out
    have hlim : Limbs [r0, r1, r2, r3] := by intro y hy; simp at hy; omega
    have hlb : Limbs [b0, b1, b2, b3] := by intro y hy; simp at hy; omega
    have hsum : lval [r0, r1, r2, r3] + lval [b0, b1, b2, b3] = lval [a0, a1, a2, a3] + 18446744073709551616 ^ 4 * k3 := by
      simp only [lval, Nat.mul_zero, Nat.add_zero]
      omega
    have hrl : lval [r0, r1, r2, r3] < 18446744073709551616 ^ 4 := lval_lt hlim
    have hbl : lval [b0, b1, b2, b3] < 18446744073709551616 ^ 4 := lval_lt hlb
    clear z0 z1 z2 z3 q0 q1 q2 q3
    refine ⟨nl_of_mod (k := 4) hlim rfl ?_, ?_⟩
    · generalize lval [a0, a1, a2, a3] = A at *
      generalize lval [b0, b1, b2, b3] = B at *
      generalize lval [r0, r1, r2, r3] = R at *
      omega
    · generalize lval [a0, a1, a2, a3] = A at *
      generalize lval [b0, b1, b2, b3] = B at *
      generalize lval [r0, r1, r2, r3] = R at *
      rw [Bool.eq_iff_iff]
      simp only [bne_iff_ne, ne_eq, decide_eq_true_eq]
      omega
  clear HS0 HS1 HS2 HS3
  go_wp2_with ((with_reducible apply W_storeK (b := c3) (vs := (([r0, r1, r2, r3] : List Nat).map n64).toArray)); rfl; rfl; exact M.r0; exact size25; (first | rfl | simp []); exact one64 _; intro w3 K hr3; replace M := Mem.callPut (L1 := []) M (Or.inr (by assumption)) K hr3; clear K hr3; simp only [List.cons_append, List.nil_append] at M)
  refine ret_ct Salg.results71 rfl M.r0 Salg.underlying25 rfl size25 rfl ⟨?_, M.kept⟩
  rw [← HE.out.1, ← HE.out.2]
  rfl
end Go.Proofs.YgcsalGreat

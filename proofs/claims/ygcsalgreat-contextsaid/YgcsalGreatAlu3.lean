/-
  The walks of u256: negative, IsZero, U64, below, And, Or, Xor, Not.
-/
import Derived.Test.YgcsalGreatAlu2
import Derived.Test.YgcsalGreatPlainM
set_option linter.unusedSimpArgs false
namespace Go.Proofs.YgcsalGreat
open Go.RowKit Go.Own
theorem or_lt {a b : Nat} (ha : a < 18446744073709551616) (hb : b < 18446744073709551616) : a ||| b < 18446744073709551616 := op_lt or_bits rfl (k := 64) ha hb
theorem not64 {a : Nat} (ha : a < 18446744073709551616) : bits .xor .u64 IntKind.u64.max (a : Int) = ((18446744073709551616 - 1 - a : Nat) : Int) := by
  have h := bits_xor_u64_nat 18446744073709551615 a (by decide) ha
  have e : (IntKind.u64.max : Int) = ((18446744073709551615 : Nat) : Int) := rfl
  rw [e, h, Nat.xor_comm]
  congr 1
  exact xor_ones (k := 64) ha

set_option maxHeartbeats 2000000 in
set_option maxRecDepth 100000 in
theorem wNegative (xs : List Nat) (w : World) (hx : xs.length = 4) (hLx : Limbs xs) :
    Calls Salg.prog 133 #[A64 xs] w fun e w' => e = .returned (.bool (decide (2 ^ 255 ≤ lval xs))) ∧ Kept [] w w' := by
  have M := Mem.start w []
  obtain ⟨a0, a1, a2, a3, rfl⟩ := four hx
  have ha0 : a0 < 18446744073709551616 := hLx _ (by simp)
  have ha1 : a1 < 18446744073709551616 := hLx _ (by simp)
  have ha2 : a2 < 18446744073709551616 := hLx _ (by simp)
  have ha3 : a3 < 18446744073709551616 := hLx _ (by simp)
  clear hLx
  go_enter Salg.func133, Salg.ntmps133
  go_wp2_with (first
    | ((with_reducible apply L_box (d := 1) M); rfl; clear M; intro c1 w1 hc1 M; simp only [Act.put, List.setIfInBounds_toArray, List.set_cons_zero, List.set_cons_succ])
    | ((with_reducible apply W_loadCell); rfl; (first | with_reducible exact M.r0 | with_reducible exact M.r1 | with_reducible exact M.r2 | with_reducible exact M.r3 | with_reducible exact M.r4 | with_reducible exact M.r5 | with_reducible exact M.r6 | assumption | exact M.kept.row (by assumption) (by simp)); (first | exact get_map (by assumption) | exact get_map rfl | rfl); exact Salg.underlying23; rfl; simp only [Act.put, List.setIfInBounds_toArray, List.set_cons_zero, List.set_cons_succ]))
  go_ret
  refine ⟨?_, M.kept⟩
  have hv : lval [a0, a1, a2, a3] = a0 + 18446744073709551616 * a1 + 340282366920938463463374607431768211456 * a2 + 6277101735386680763835789423207666416102355444464034512896 * a3 := by
    simp only [lval, Nat.mul_zero, Nat.add_zero]
    omega
  have hd : ((a3 : Int) / 9223372036854775808 != 0) = decide (2 ^ 255 ≤ lval [a0, a1, a2, a3]) := by
    rw [Bool.eq_iff_iff, show (2 : Nat) ^ 255 = 57896044618658097711785492504343953926634992332820282019728792003956564819968 from rfl]
    rw [hv]
    simp only [bne_iff_ne, ne_eq, decide_eq_true_eq]
    constructor
    · intro h; omega
    · intro h; omega
  rw [← hd]
  rfl

set_option maxHeartbeats 2000000 in
set_option maxRecDepth 100000 in
theorem wIsZero (xs : List Nat) (w : World) (hx : xs.length = 4) (hLx : Limbs xs) :
    Calls Salg.prog 54 #[A64 xs] w fun e w' => e = .returned (.bool (decide (lval xs = 0))) ∧ Kept [] w w' := by
  have M := Mem.start w []
  obtain ⟨a0, a1, a2, a3, rfl⟩ := four hx
  have ha0 : a0 < 18446744073709551616 := hLx _ (by simp)
  have ha1 : a1 < 18446744073709551616 := hLx _ (by simp)
  have ha2 : a2 < 18446744073709551616 := hLx _ (by simp)
  have ha3 : a3 < 18446744073709551616 := hLx _ (by simp)
  clear hLx
  go_enter Salg.func54, Salg.ntmps54
  go_wp2_with (first
    | ((with_reducible apply L_box (d := 1) M); rfl; clear M; intro c1 w1 hc1 M; simp only [Act.put, List.setIfInBounds_toArray, List.set_cons_zero, List.set_cons_succ])
    | ((with_reducible apply W_loadCell); rfl; (first | with_reducible exact M.r0 | with_reducible exact M.r1 | with_reducible exact M.r2 | with_reducible exact M.r3 | with_reducible exact M.r4 | with_reducible exact M.r5 | with_reducible exact M.r6 | assumption | exact M.kept.row (by assumption) (by simp)); (first | exact get_map (by assumption) | exact get_map rfl | rfl); exact Salg.underlying23; rfl; simp only [Act.put, List.setIfInBounds_toArray, List.set_cons_zero, List.set_cons_succ]))
  go_ret
  refine ⟨?_, M.kept⟩
  have e1 := or_lt ha0 ha1
  have e2 := or_lt e1 ha2
  have hv : lval [a0, a1, a2, a3] = a0 + 18446744073709551616 * a1 + 340282366920938463463374607431768211456 * a2 + 6277101735386680763835789423207666416102355444464034512896 * a3 := by
    simp only [lval, Nat.mul_zero, Nat.add_zero]
    omega
  have hd : (bits .or .u64 (bits .or .u64 (bits .or .u64 (a0 : Int) a1) a2) a3 == 0) = decide (lval [a0, a1, a2, a3] = 0) := by
    rw [bits_or_u64_nat a0 a1 ha0 ha1, bits_or_u64_nat _ a2 e1 ha2, bits_or_u64_nat _ a3 e2 ha3]
    rw [Bool.eq_iff_iff]
    rw [hv]
    simp only [beq_iff_eq, decide_eq_true_eq]
    constructor
    · intro h
      have h' : a0 ||| a1 ||| a2 ||| a3 = 0 := by omega
      rw [or_zero, or_zero, or_zero] at h'
      omega
    · intro h
      obtain ⟨rfl, rfl, rfl, rfl⟩ : a0 = 0 ∧ a1 = 0 ∧ a2 = 0 ∧ a3 = 0 := by omega
      rfl
  rw [← hd]
  rfl

set_option maxHeartbeats 2000000 in
set_option maxRecDepth 100000 in
theorem wNot (xs : List Nat) (w : World) (hx : xs.length = 4) (hLx : Limbs xs) :
    Calls Salg.prog 58 #[A64 xs] w fun e w' => e = .returned (A64 (nl 4 (18446744073709551616 ^ 4 - 1 - lval xs))) ∧ Kept [] w w' := by
  have M := Mem.start w []
  obtain ⟨a0, a1, a2, a3, rfl⟩ := four hx
  have ha0 : a0 < 18446744073709551616 := hLx _ (by simp)
  have ha1 : a1 < 18446744073709551616 := hLx _ (by simp)
  have ha2 : a2 < 18446744073709551616 := hLx _ (by simp)
  have ha3 : a3 < 18446744073709551616 := hLx _ (by simp)
  have HE : Hid ([18446744073709551616 - 1 - a0, 18446744073709551616 - 1 - a1, 18446744073709551616 - 1 - a2, 18446744073709551616 - 1 - a3] = nl 4 (18446744073709551616 ^ 4 - 1 - lval [a0, a1, a2, a3])) := by
    refine eq_nl (by intro y hy; simp at hy; omega) rfl ?_
    simp only [lval, Nat.mul_zero, Nat.add_zero]
    omega
  have HV : Hid (Value.agg #[Value.int .u64 (bits .xor .u64 IntKind.u64.max (a0 : Int)), Value.int .u64 (bits .xor .u64 IntKind.u64.max (a1 : Int)), Value.int .u64 (bits .xor .u64 IntKind.u64.max (a2 : Int)), Value.int .u64 (bits .xor .u64 IntKind.u64.max (a3 : Int))] = A64 [18446744073709551616 - 1 - a0, 18446744073709551616 - 1 - a1, 18446744073709551616 - 1 - a2, 18446744073709551616 - 1 - a3]) := by
    show _ = _
    rw [not64 ha0, not64 ha1, not64 ha2, not64 ha3]
    rfl
  clear hLx
  go_enter Salg.func58, Salg.ntmps58
  go_wp2_with (first
    | ((with_reducible apply L_box (d := 1) M); rfl; clear M; intro c1 w1 hc1 M; simp only [Act.put, List.setIfInBounds_toArray, List.set_cons_zero, List.set_cons_succ])
    | ((with_reducible apply L_allocA (d := 2) M); exact zero25; clear M; intro c2 w1 hc2 M; simp only [Act.put, List.setIfInBounds_toArray, List.set_cons_zero, List.set_cons_succ])
    | ((with_reducible apply W_loadCell); rfl; (first | with_reducible exact M.r0 | with_reducible exact M.r1 | with_reducible exact M.r2 | with_reducible exact M.r3 | with_reducible exact M.r4 | with_reducible exact M.r5 | with_reducible exact M.r6 | assumption | exact M.kept.row (by assumption) (by simp)); (first | exact get_map (by assumption) | exact get_map rfl | rfl); exact Salg.underlying23; rfl; simp only [Act.put, List.setIfInBounds_toArray, List.set_cons_zero, List.set_cons_succ])
    | ((with_reducible apply W_storeK (b := c2) (vs := (([18446744073709551616 - 1 - a0, 18446744073709551616 - 1 - a1, 18446744073709551616 - 1 - a2, 18446744073709551616 - 1 - a3] : List Nat).map n64).toArray)); rfl; exact HV.out; exact M.r0; exact size25; rfl; exact one64 _; intro w3 K hr3; replace M := Mem.callPut (L1 := []) M (Or.inr (by assumption)) K hr3; clear K hr3; simp only [List.cons_append, List.nil_append] at M))
  exact ret_cell1 Salg.results58 rfl M.r0 Salg.underlying25 rfl size25 rfl ⟨by rw [← HE.out], M.kept⟩

set_option maxHeartbeats 2000000 in
set_option maxRecDepth 100000 in
theorem wU64no (xs : List Nat) (w : World) (hx : xs.length = 4) (hLx : Limbs xs) (hbig : 18446744073709551616 ≤ lval xs) :
    Calls Salg.prog 76 #[A64 xs] w fun e w' => e = .returned (.tuple #[n64 0, .bool false]) ∧ Kept [] w w' := by
  have M := Mem.start w []
  obtain ⟨a0, a1, a2, a3, rfl⟩ := four hx
  have ha0 : a0 < 18446744073709551616 := hLx _ (by simp)
  have ha1 : a1 < 18446744073709551616 := hLx _ (by simp)
  have ha2 : a2 < 18446744073709551616 := hLx _ (by simp)
  have ha3 : a3 < 18446744073709551616 := hLx _ (by simp)
  have dn : (bits .or .u64 (bits .or .u64 (a1 : Int) a2) a3 != 0) = true := by
    have e1 := or_lt ha1 ha2
    rw [bits_or_u64_nat a1 a2 ha1 ha2, bits_or_u64_nat _ a3 e1 ha3, bne_iff_ne]
    intro h
    have h' : a1 ||| a2 ||| a3 = 0 := by omega
    rw [or_zero, or_zero] at h'
    simp only [lval, Nat.mul_zero, Nat.add_zero] at hbig
    omega
  clear hLx hbig
  go_enter Salg.func76, Salg.ntmps76
  go_wp2_with (first
    | ((with_reducible apply L_box (d := 1) M); rfl; clear M; intro c1 w1 hc1 M; simp only [Act.put, List.setIfInBounds_toArray, List.set_cons_zero, List.set_cons_succ])
    | ((with_reducible apply W_loadCell); rfl; (first | with_reducible exact M.r0 | with_reducible exact M.r1 | with_reducible exact M.r2 | with_reducible exact M.r3 | with_reducible exact M.r4 | with_reducible exact M.r5 | with_reducible exact M.r6 | assumption | exact M.kept.row (by assumption) (by simp)); (first | exact get_map (by assumption) | exact get_map rfl | rfl); exact Salg.underlying23; rfl; simp only [Act.put, List.setIfInBounds_toArray, List.set_cons_zero, List.set_cons_succ]))
  go_ret2
  exact ⟨rfl, M.kept⟩

set_option maxHeartbeats 2000000 in
set_option maxRecDepth 100000 in
theorem wU64yes (xs : List Nat) (w : World) (hx : xs.length = 4) (hLx : Limbs xs) (hsm : lval xs < 18446744073709551616) :
    Calls Salg.prog 76 #[A64 xs] w fun e w' => e = .returned (.tuple #[n64 (lval xs), .bool true]) ∧ Kept [] w w' := by
  have M := Mem.start w []
  obtain ⟨a0, a1, a2, a3, rfl⟩ := four hx
  have ha0 : a0 < 18446744073709551616 := hLx _ (by simp)
  have ha1 : a1 < 18446744073709551616 := hLx _ (by simp)
  have ha2 : a2 < 18446744073709551616 := hLx _ (by simp)
  have ha3 : a3 < 18446744073709551616 := hLx _ (by simp)
  obtain ⟨rfl, rfl, rfl⟩ : a1 = 0 ∧ a2 = 0 ∧ a3 = 0 := by simp only [lval, Nat.mul_zero, Nat.add_zero] at hsm; omega
  have HV : Hid (lval [a0, 0, 0, 0] = a0) := by show _ = _; simp [lval]
  have dn : (bits .or .u64 (bits .or .u64 ((0 : Nat) : Int) ((0 : Nat) : Int)) ((0 : Nat) : Int) != 0) = false := rfl
  clear hLx hsm
  go_enter Salg.func76, Salg.ntmps76
  go_wp2_with (first
    | ((with_reducible apply L_box (d := 1) M); rfl; clear M; intro c1 w1 hc1 M; simp only [Act.put, List.setIfInBounds_toArray, List.set_cons_zero, List.set_cons_succ])
    | ((with_reducible apply W_loadCell); rfl; (first | with_reducible exact M.r0 | with_reducible exact M.r1 | with_reducible exact M.r2 | with_reducible exact M.r3 | with_reducible exact M.r4 | with_reducible exact M.r5 | with_reducible exact M.r6 | assumption | exact M.kept.row (by assumption) (by simp)); (first | exact get_map (by assumption) | exact get_map rfl | rfl); exact Salg.underlying23; rfl; simp only [Act.put, List.setIfInBounds_toArray, List.set_cons_zero, List.set_cons_succ]))
  go_ret2
  exact ⟨by rw [HV.out]; rfl, M.kept⟩

set_option maxHeartbeats 2000000 in
set_option maxRecDepth 100000 in
theorem wAnd (xs ys : List Nat) (w : World) (hx : xs.length = 4) (hy : ys.length = 4) (hLx : Limbs xs) (hLy : Limbs ys) :
    Calls Salg.prog 55 #[A64 xs, A64 ys] w fun e w' => e = .returned (A64 (nl 4 (lval xs &&& lval ys))) ∧ Kept [] w w' := by
  have M := Mem.start w []
  obtain ⟨a0, a1, a2, a3, rfl⟩ := four hx
  obtain ⟨b0, b1, b2, b3, rfl⟩ := four hy
  have ha0 : a0 < 18446744073709551616 := hLx _ (by simp)
  have ha1 : a1 < 18446744073709551616 := hLx _ (by simp)
  have ha2 : a2 < 18446744073709551616 := hLx _ (by simp)
  have ha3 : a3 < 18446744073709551616 := hLx _ (by simp)
  have hb0 : b0 < 18446744073709551616 := hLy _ (by simp)
  have hb1 : b1 < 18446744073709551616 := hLy _ (by simp)
  have hb2 : b2 < 18446744073709551616 := hLy _ (by simp)
  have hb3 : b3 < 18446744073709551616 := hLy _ (by simp)
  have HE : Hid ([a0 &&& b0, a1 &&& b1, a2 &&& b2, a3 &&& b3] = nl 4 (lval [a0, a1, a2, a3] &&& lval [b0, b1, b2, b3])) := by
    obtain ⟨g1, g2⟩ := lval_op and_bits rfl (xs := [a0, a1, a2, a3]) (ys := [b0, b1, b2, b3]) rfl hLx hLy
    exact eq_nl g2 rfl g1
  have HV : Hid (Value.agg #[Value.int .u64 (bits .and .u64 (a0 : Int) b0), Value.int .u64 (bits .and .u64 (a1 : Int) b1), Value.int .u64 (bits .and .u64 (a2 : Int) b2), Value.int .u64 (bits .and .u64 (a3 : Int) b3)] = A64 [a0 &&& b0, a1 &&& b1, a2 &&& b2, a3 &&& b3]) := by
    show _ = _
    rw [bits_and_u64_nat a0 b0 ha0 hb0, bits_and_u64_nat a1 b1 ha1 hb1, bits_and_u64_nat a2 b2 ha2 hb2, bits_and_u64_nat a3 b3 ha3 hb3]
    rfl
  clear hLx hLy
  go_enter Salg.func55, Salg.ntmps55
  go_wp2_with (first
    | ((with_reducible apply L_box (d := 2) M); rfl; clear M; intro c1 w1 hc1 M; simp only [Act.put, List.setIfInBounds_toArray, List.set_cons_zero, List.set_cons_succ])
    | ((with_reducible apply L_box (d := 3) M); rfl; clear M; intro c2 w1 hc2 M; simp only [Act.put, List.setIfInBounds_toArray, List.set_cons_zero, List.set_cons_succ])
    | ((with_reducible apply L_allocA (d := 4) M); exact zero25; clear M; intro c3 w1 hc3 M; simp only [Act.put, List.setIfInBounds_toArray, List.set_cons_zero, List.set_cons_succ])
    | ((with_reducible apply W_loadCell); rfl; (first | with_reducible exact M.r0 | with_reducible exact M.r1 | with_reducible exact M.r2 | with_reducible exact M.r3 | with_reducible exact M.r4 | with_reducible exact M.r5 | with_reducible exact M.r6 | assumption | exact M.kept.row (by assumption) (by simp)); (first | exact get_map (by assumption) | exact get_map rfl | rfl); exact Salg.underlying23; rfl; simp only [Act.put, List.setIfInBounds_toArray, List.set_cons_zero, List.set_cons_succ])
    | ((with_reducible apply W_storeK (b := c3) (vs := (([a0 &&& b0, a1 &&& b1, a2 &&& b2, a3 &&& b3] : List Nat).map n64).toArray)); rfl; exact HV.out; exact M.r0; exact size25; rfl; exact one64 _; intro w3 K hr3; replace M := Mem.callPut (L1 := []) M (Or.inr (by assumption)) K hr3; clear K hr3; simp only [List.cons_append, List.nil_append] at M))
  exact ret_cell1 Salg.results55 rfl M.r0 Salg.underlying25 rfl size25 rfl ⟨by rw [← HE.out], M.kept⟩

set_option maxHeartbeats 2000000 in
set_option maxRecDepth 100000 in
theorem wOr (xs ys : List Nat) (w : World) (hx : xs.length = 4) (hy : ys.length = 4) (hLx : Limbs xs) (hLy : Limbs ys) :
    Calls Salg.prog 56 #[A64 xs, A64 ys] w fun e w' => e = .returned (A64 (nl 4 (lval xs ||| lval ys))) ∧ Kept [] w w' := by
  have M := Mem.start w []
  obtain ⟨a0, a1, a2, a3, rfl⟩ := four hx
  obtain ⟨b0, b1, b2, b3, rfl⟩ := four hy
  have ha0 : a0 < 18446744073709551616 := hLx _ (by simp)
  have ha1 : a1 < 18446744073709551616 := hLx _ (by simp)
  have ha2 : a2 < 18446744073709551616 := hLx _ (by simp)
  have ha3 : a3 < 18446744073709551616 := hLx _ (by simp)
  have hb0 : b0 < 18446744073709551616 := hLy _ (by simp)
  have hb1 : b1 < 18446744073709551616 := hLy _ (by simp)
  have hb2 : b2 < 18446744073709551616 := hLy _ (by simp)
  have hb3 : b3 < 18446744073709551616 := hLy _ (by simp)
  have HE : Hid ([a0 ||| b0, a1 ||| b1, a2 ||| b2, a3 ||| b3] = nl 4 (lval [a0, a1, a2, a3] ||| lval [b0, b1, b2, b3])) := by
    obtain ⟨g1, g2⟩ := lval_op or_bits rfl (xs := [a0, a1, a2, a3]) (ys := [b0, b1, b2, b3]) rfl hLx hLy
    exact eq_nl g2 rfl g1
  have HV : Hid (Value.agg #[Value.int .u64 (bits .or .u64 (a0 : Int) b0), Value.int .u64 (bits .or .u64 (a1 : Int) b1), Value.int .u64 (bits .or .u64 (a2 : Int) b2), Value.int .u64 (bits .or .u64 (a3 : Int) b3)] = A64 [a0 ||| b0, a1 ||| b1, a2 ||| b2, a3 ||| b3]) := by
    show _ = _
    rw [bits_or_u64_nat a0 b0 ha0 hb0, bits_or_u64_nat a1 b1 ha1 hb1, bits_or_u64_nat a2 b2 ha2 hb2, bits_or_u64_nat a3 b3 ha3 hb3]
    rfl
  clear hLx hLy
  go_enter Salg.func56, Salg.ntmps56
  go_wp2_with (first
    | ((with_reducible apply L_box (d := 2) M); rfl; clear M; intro c1 w1 hc1 M; simp only [Act.put, List.setIfInBounds_toArray, List.set_cons_zero, List.set_cons_succ])
    | ((with_reducible apply L_box (d := 3) M); rfl; clear M; intro c2 w1 hc2 M; simp only [Act.put, List.setIfInBounds_toArray, List.set_cons_zero, List.set_cons_succ])
    | ((with_reducible apply L_allocA (d := 4) M); exact zero25; clear M; intro c3 w1 hc3 M; simp only [Act.put, List.setIfInBounds_toArray, List.set_cons_zero, List.set_cons_succ])
    | ((with_reducible apply W_loadCell); rfl; (first | with_reducible exact M.r0 | with_reducible exact M.r1 | with_reducible exact M.r2 | with_reducible exact M.r3 | with_reducible exact M.r4 | with_reducible exact M.r5 | with_reducible exact M.r6 | assumption | exact M.kept.row (by assumption) (by simp)); (first | exact get_map (by assumption) | exact get_map rfl | rfl); exact Salg.underlying23; rfl; simp only [Act.put, List.setIfInBounds_toArray, List.set_cons_zero, List.set_cons_succ])
    | ((with_reducible apply W_storeK (b := c3) (vs := (([a0 ||| b0, a1 ||| b1, a2 ||| b2, a3 ||| b3] : List Nat).map n64).toArray)); rfl; exact HV.out; exact M.r0; exact size25; rfl; exact one64 _; intro w3 K hr3; replace M := Mem.callPut (L1 := []) M (Or.inr (by assumption)) K hr3; clear K hr3; simp only [List.cons_append, List.nil_append] at M))
  exact ret_cell1 Salg.results56 rfl M.r0 Salg.underlying25 rfl size25 rfl ⟨by rw [← HE.out], M.kept⟩

set_option maxHeartbeats 2000000 in
set_option maxRecDepth 100000 in
theorem wXor (xs ys : List Nat) (w : World) (hx : xs.length = 4) (hy : ys.length = 4) (hLx : Limbs xs) (hLy : Limbs ys) :
    Calls Salg.prog 57 #[A64 xs, A64 ys] w fun e w' => e = .returned (A64 (nl 4 (lval xs ^^^ lval ys))) ∧ Kept [] w w' := by
  have M := Mem.start w []
  obtain ⟨a0, a1, a2, a3, rfl⟩ := four hx
  obtain ⟨b0, b1, b2, b3, rfl⟩ := four hy
  have ha0 : a0 < 18446744073709551616 := hLx _ (by simp)
  have ha1 : a1 < 18446744073709551616 := hLx _ (by simp)
  have ha2 : a2 < 18446744073709551616 := hLx _ (by simp)
  have ha3 : a3 < 18446744073709551616 := hLx _ (by simp)
  have hb0 : b0 < 18446744073709551616 := hLy _ (by simp)
  have hb1 : b1 < 18446744073709551616 := hLy _ (by simp)
  have hb2 : b2 < 18446744073709551616 := hLy _ (by simp)
  have hb3 : b3 < 18446744073709551616 := hLy _ (by simp)
  have HE : Hid ([a0 ^^^ b0, a1 ^^^ b1, a2 ^^^ b2, a3 ^^^ b3] = nl 4 (lval [a0, a1, a2, a3] ^^^ lval [b0, b1, b2, b3])) := by
    obtain ⟨g1, g2⟩ := lval_op xor_bits rfl (xs := [a0, a1, a2, a3]) (ys := [b0, b1, b2, b3]) rfl hLx hLy
    exact eq_nl g2 rfl g1
  have HV : Hid (Value.agg #[Value.int .u64 (bits .xor .u64 (a0 : Int) b0), Value.int .u64 (bits .xor .u64 (a1 : Int) b1), Value.int .u64 (bits .xor .u64 (a2 : Int) b2), Value.int .u64 (bits .xor .u64 (a3 : Int) b3)] = A64 [a0 ^^^ b0, a1 ^^^ b1, a2 ^^^ b2, a3 ^^^ b3]) := by
    show _ = _
    rw [bits_xor_u64_nat a0 b0 ha0 hb0, bits_xor_u64_nat a1 b1 ha1 hb1, bits_xor_u64_nat a2 b2 ha2 hb2, bits_xor_u64_nat a3 b3 ha3 hb3]
    rfl
  clear hLx hLy
  go_enter Salg.func57, Salg.ntmps57
  go_wp2_with (first
    | ((with_reducible apply L_box (d := 2) M); rfl; clear M; intro c1 w1 hc1 M; simp only [Act.put, List.setIfInBounds_toArray, List.set_cons_zero, List.set_cons_succ])
    | ((with_reducible apply L_box (d := 3) M); rfl; clear M; intro c2 w1 hc2 M; simp only [Act.put, List.setIfInBounds_toArray, List.set_cons_zero, List.set_cons_succ])
    | ((with_reducible apply L_allocA (d := 4) M); exact zero25; clear M; intro c3 w1 hc3 M; simp only [Act.put, List.setIfInBounds_toArray, List.set_cons_zero, List.set_cons_succ])
    | ((with_reducible apply W_loadCell); rfl; (first | with_reducible exact M.r0 | with_reducible exact M.r1 | with_reducible exact M.r2 | with_reducible exact M.r3 | with_reducible exact M.r4 | with_reducible exact M.r5 | with_reducible exact M.r6 | assumption | exact M.kept.row (by assumption) (by simp)); (first | exact get_map (by assumption) | exact get_map rfl | rfl); exact Salg.underlying23; rfl; simp only [Act.put, List.setIfInBounds_toArray, List.set_cons_zero, List.set_cons_succ])
    | ((with_reducible apply W_storeK (b := c3) (vs := (([a0 ^^^ b0, a1 ^^^ b1, a2 ^^^ b2, a3 ^^^ b3] : List Nat).map n64).toArray)); rfl; exact HV.out; exact M.r0; exact size25; rfl; exact one64 _; intro w3 K hr3; replace M := Mem.callPut (L1 := []) M (Or.inr (by assumption)) K hr3; clear K hr3; simp only [List.cons_append, List.nil_append] at M))
  exact ret_cell1 Salg.results57 rfl M.r0 Salg.underlying25 rfl size25 rfl ⟨by rw [← HE.out], M.kept⟩
end Go.Proofs.YgcsalGreat

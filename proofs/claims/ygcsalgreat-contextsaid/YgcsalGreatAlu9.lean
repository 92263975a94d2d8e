/-
  The walk of u256's SignExtend.
-/
import Derived.Test.YgcsalGreatAlu8
set_option linter.unusedSimpArgs false
namespace Go.Own
def sxs (ys : List Nat) (j t i : Nat) : List Nat := ys.take j ++ sxl t (ys.getD j 0) :: (List.replicate (i - (j + 1)) (sxf t (ys.getD j 0)) ++ ys.drop i)
theorem sxs_length {ys : List Nat} {j t i : Nat} (hy : ys.length = 4) (h : j < i) (hi : i ≤ 4) : (sxs ys j t i).length = 4 := by simp [sxs, hy]; omega
theorem sxs_start {ys : List Nat} {j t : Nat} (hj : j < ys.length) : ys.set j (sxl t (ys.getD j 0)) = sxs ys j t (j + 1) := by
  rw [List.set_eq_take_append_cons_drop, if_pos hj, sxs, Nat.sub_self]
  rfl
theorem sxs_step {ys : List Nat} {j t i : Nat} (hy : ys.length = 4) (h : j < i) (hi : i < 4) : (sxs ys j t i).set i (sxf t (ys.getD j 0)) = sxs ys j t (i + 1) := by
  unfold sxs
  have hl : (ys.take j).length = j := by simp [hy]; omega
  rw [List.set_append_right _ _ (by omega), hl, show i - j = (i - (j + 1)) + 1 by omega, List.set_cons_succ, List.set_append_right _ _ (by simp), List.length_replicate, Nat.sub_self,
    List.drop_eq_getElem_cons (by omega), List.set_cons_zero, show i + 1 - (j + 1) = (i - (j + 1)) + 1 by omega, List.replicate_succ', List.append_assoc]
  rfl
end Go.Own
namespace Go.Proofs.YgcsalGreat
open Go.RowKit Go.Own
theorem sx_parts {y u t : Nat} (hu : u < 64) (ht : t = 64 - u) : y * 2 ^ u % 18446744073709551616 = y % 2 ^ t * 2 ^ u := by
  subst ht
  rw [split64 hu, Nat.mul_mod_mul_right]
theorem sx_int {y u t : Nat} (hu : u < 64) (ht : t = 64 - u) : IntKind.u64.wrap (wrap64 (IntKind.u64.wrap ((y : Int) * 2 ^ u)) / 2 ^ u) = ((sxl t y : Nat) : Int) := by
  rw [wrap_shl, sx_parts hu ht, pow_cast]
  have hB := split64 hu
  rw [← ht] at hB
  have h2 : 2 ^ t = 2 * 2 ^ (t - 1) := by rw [← Nat.pow_succ']; congr 1; omega
  have hz : y % 2 ^ t < 2 ^ t := Nat.mod_lt _ (Nat.pow_pos (by decide))
  have hU : 0 < 2 ^ u := Nat.pow_pos (by decide)
  have hP : 2 ^ t ≤ 18446744073709551616 := by
    have : 2 ^ t ≤ 2 ^ 64 := Nat.pow_le_pow_right (by decide) (by omega)
    omega
  unfold sxl
  generalize y % 2 ^ t = z at *
  generalize 2 ^ (t - 1) = H at *
  generalize 2 ^ u = U at *
  generalize 2 ^ t = P at *
  have hzU : z * U < P * U := Nat.mul_lt_mul_of_pos_right hz hU
  have hHU : P * U = 2 * (H * U) := by rw [h2, Nat.mul_assoc]
  by_cases h : H ≤ z
  · rw [if_pos h]
    have h1 : H * U ≤ z * U := Nat.mul_le_mul_right U h
    have e : wrap64 (((z * U : Nat)) : Int) = ((z : Int) - (P : Int)) * (U : Int) := by
      unfold wrap64
      rw [Int.sub_mul, ← Int.natCast_mul, ← Int.natCast_mul]
      omega
    rw [e, Int.mul_ediv_cancel _ (by omega), IntKind.wrap_u64]
    omega
  · rw [if_neg h]
    have h1 : z * U < H * U := Nat.mul_lt_mul_of_pos_right (by omega) hU
    have e : wrap64 (((z * U : Nat)) : Int) = (z : Int) * (U : Int) := by
      unfold wrap64
      rw [← Int.natCast_mul]
      omega
    rw [e, Int.mul_ediv_cancel _ (by omega), IntKind.wrap_u64]
    omega
theorem sx_fill {y t : Nat} (h1 : 1 ≤ t) (ht : t ≤ 64) : (9223372036854775808 ≤ sxl t y ↔ 2 ^ (t - 1) ≤ y % 2 ^ t) ∧ sxl t y < 18446744073709551616 := by
  have h2 : 2 ^ t = 2 * 2 ^ (t - 1) := by rw [← Nat.pow_succ']; congr 1; omega
  have hz : y % 2 ^ t < 2 ^ t := Nat.mod_lt _ (Nat.pow_pos (by decide))
  have hP : 2 ^ t ≤ 18446744073709551616 := by
    have : 2 ^ t ≤ 2 ^ 64 := Nat.pow_le_pow_right (by decide) (by omega)
    omega
  unfold sxl
  generalize y % 2 ^ t = z at *
  generalize 2 ^ (t - 1) = H at *
  generalize 2 ^ t = P at *
  split <;> omega
theorem fill_sx {y t : Nat} (h1 : 1 ≤ t) (ht : t ≤ 64) : IntKind.u64.wrap (wrap64 ((sxl t y : Nat) : Int) / 9223372036854775808) = ((sxf t y : Nat) : Int) := by
  obtain ⟨ha, hb⟩ := sx_fill (y := y) h1 ht
  rw [fill_int _ hb]
  unfold sxf
  by_cases h : 2 ^ (t - 1) ≤ y % 2 ^ t
  · rw [if_pos h, if_pos (by simpa using ha.2 h)]
  · rw [if_neg h, if_neg (by simpa using fun h' => h (ha.1 h'))]

set_option maxHeartbeats 2000000 in
set_option maxRecDepth 100000 in
theorem wSignExtend (xs ys : List Nat) (w : World) (hx : xs.length = 4) (hy : ys.length = 4) (hLx : Limbs xs) (hLy : Limbs ys) :
    Calls Salg.prog 48 #[A64 xs, A64 ys] w fun e w' => e = .returned (A64 (nl 4 (sextN (lval xs) (lval ys)))) ∧ Kept [] w w' := by
  have M := Mem.start w []
  rcases Nat.lt_or_ge (lval xs) 31 with h | h
  · have HC := hid (fun w => wBelow_lt xs 31 w hx hLx h (by decide))
    have HE := hid (sext_all (xs := ys) hLy hy (k := lval xs) (j := (8 * lval xs + 7) / 64) (t := (8 * lval xs + 7) % 64 + 1) h rfl rfl)
    clear hLx hLy
    generalize lval xs = I at *
    have hj : (8 * I + 7) / 64 < 4 := by omega
    have HE2 : Hid (sxs ys ((8 * I + 7) / 64) ((8 * I + 7) % 64 + 1) 4 = nl 4 (sextN I (lval ys))) := by
      show _ = _
      rw [← HE.out, sxs, List.drop_of_length_le (by omega), List.append_nil, show 4 - ((8 * I + 7) / 64 + 1) = 3 - (8 * I + 7) / 64 by omega]
    have hg : ys[(8 * I + 7) / 64]? = some (ys.getD ((8 * I + 7) / 64) 0) := by rw [getD_get (by omega)]; exact List.getElem?_eq_getElem _
    have HST := hid (sxs_start (ys := ys) (j := (8 * I + 7) / 64) (t := (8 * I + 7) % 64 + 1) (by omega))
    have HSP : Hid (∀ i, (8 * I + 7) / 64 < i → i < 4 → (sxs ys ((8 * I + 7) / 64) ((8 * I + 7) % 64 + 1) i).set i (sxf ((8 * I + 7) % 64 + 1) (ys.getD ((8 * I + 7) / 64) 0)) = sxs ys ((8 * I + 7) / 64) ((8 * I + 7) % 64 + 1) (i + 1)) := fun i h1 h2 => sxs_step hy h1 h2
    have hsx : ∀ y : Nat, IntKind.u64.wrap (wrap64 (IntKind.u64.wrap ((y : Int) * 2 ^ (63 - (8 * I + 7) % 64))) / 2 ^ (63 - (8 * I + 7) % 64)) = ((sxl ((8 * I + 7) % 64 + 1) y : Nat) : Int) := fun y => sx_int (y := y) (u := 63 - (8 * I + 7) % 64) (t := (8 * I + 7) % 64 + 1) (by omega) (by omega)
    have hsf : ∀ y : Nat, IntKind.u64.wrap (wrap64 ((sxl ((8 * I + 7) % 64 + 1) y : Nat) : Int) / 9223372036854775808) = ((sxf ((8 * I + 7) % 64 + 1) y : Nat) : Int) := fun y => fill_sx (y := y) (t := (8 * I + 7) % 64 + 1) (by omega) (by omega)
    have HX := hid hsx
    have HF := hid hsf
    clear hsx hsf HE
    generalize ys.getD ((8 * I + 7) / 64) 0 = y at *
    go_enter Salg.func48, Salg.ntmps48
    go_wp2_with (first
      | ((with_reducible apply L_box (d := 2) M); rfl; clear M; intro c1 w1 hc1 M; simp only [Act.put, List.setIfInBounds_toArray, List.set_cons_zero, List.set_cons_succ])
      | ((with_reducible apply L_box (d := 3) M); rfl; clear M; intro c2 w1 hc2 M; simp only [Act.put, List.setIfInBounds_toArray, List.set_cons_zero, List.set_cons_succ])
      | ((with_reducible apply L_allocA (d := 4) M); exact zero25; clear M; intro c3 w1 hc3 M; simp only [Act.put, List.setIfInBounds_toArray, List.set_cons_zero, List.set_cons_succ])
      | ((with_reducible apply W_loadAll); rfl; (first | with_reducible exact M.r0 | with_reducible exact M.r1 | with_reducible exact M.r2 | with_reducible exact M.r3 | with_reducible exact M.r4 | with_reducible exact M.r5 | with_reducible exact M.r6 | assumption | exact M.kept.row (by assumption) (by simp)); exact Salg.underlying25; rfl; (first | with_reducible exact size25 | (rw [size25]; simp [hx])); simp only [Act.put, List.setIfInBounds_toArray, List.set_cons_zero, List.set_cons_succ]))
    refine (HC.out _).mono ?_
    rintro e w2 ⟨rfl, K⟩
    replace M := M.call K
    clear K HC
    have hsl : (sxs ys ((8 * I + 7) / 64) ((8 * I + 7) % 64 + 1) ((8 * I + 7) / 64 + 1)).length = 4 := sxs_length hy (by omega) (by omega)
    have hg2 : (sxs ys ((8 * I + 7) / 64) ((8 * I + 7) % 64 + 1) ((8 * I + 7) / 64 + 1))[(8 * I + 7) / 64]? = some (sxl ((8 * I + 7) % 64 + 1) y) := by
      rw [← HST.out, List.getElem?_set_self (by omega)]
    go_wp2_with (first
      | ((with_reducible apply W_loadCell); rfl; (first | with_reducible exact M.r0 | with_reducible exact M.r1 | with_reducible exact M.r2 | with_reducible exact M.r3 | with_reducible exact M.r4 | with_reducible exact M.r5 | with_reducible exact M.r6 | assumption | exact M.kept.row (by assumption) (by simp)); (first | exact get_map (by assumption) | exact get_map rfl | rfl); exact Salg.underlying23; rfl; simp only [Act.put, List.setIfInBounds_toArray, List.set_cons_zero, List.set_cons_succ])
      | (((with_reducible apply W_st64K (b := c2) (o := (8 * I + 7) / 64) (m := sxl ((8 * I + 7) % 64 + 1) y)); rfl; rfl; exact HX.out y; exact M.r1; exact size23; (rw [hy]; omega); intro w3 K hr3; replace M := Mem.callPut (L1 := [_]) M (Or.inr (by assumption)) K hr3; clear K hr3; simp only [List.cons_append, List.nil_append] at M); rw [HST.out] at M))
    rw [HF.out y]
    clear HF HX HST hg2 hsl hg
    go_loopw [10] (fun iv wr => ∃ i : Nat, (8 * I + 7) / 64 < i ∧ i ≤ 4 ∧ iv = .int .u64 i ∧ Mem w [] [(c3, R64 25 (List.replicate 4 0)), (c2, R64 25 (sxs ys ((8 * I + 7) / 64) ((8 * I + 7) % 64 + 1) i)), (c1, R64 25 xs)] wr) (fun iv _ => (4 - intOf iv).toNat)
    case atStart => exact ⟨(8 * I + 7) / 64 + 1, by omega, by omega, rfl, M⟩
    case round =>
      clear M
      obtain ⟨i, hi, hi4, rfl, M⟩ := hrel
      rcases Nat.lt_or_ge i 4 with hlt | hge
      · have hsl : (sxs ys ((8 * I + 7) / 64) ((8 * I + 7) % 64 + 1) i).length = 4 := sxs_length hy hi (by omega)
        go_wp2_with ((with_reducible apply W_st64K (b := c2) (o := i) (m := sxf ((8 * I + 7) % 64 + 1) y)); rfl; rfl; rfl; exact M.r1; exact size23; (rw [hsl]; omega); intro w3 K hr3; replace M := Mem.callPut (L1 := [_]) M (Or.inr (by assumption)) K hr3; clear K hr3; simp only [List.cons_append, List.nil_append] at M)
        rw [HSP.out i hi hlt] at M
        go_roundw
        case rel => exact ⟨i + 1, by omega, by omega, by go_num, M⟩
        case measure => simp [intOf]; omega
      · have hi' : i = 4 := by omega
        subst hi'
        rw [HE2.out] at M
        have hrl := nl_length 4 (sextN I (lval ys))
        go_wp2_with (first
          | ((with_reducible apply W_loadAll); rfl; (first | with_reducible exact M.r0 | with_reducible exact M.r1 | with_reducible exact M.r2 | with_reducible exact M.r3 | with_reducible exact M.r4 | with_reducible exact M.r5 | with_reducible exact M.r6 | assumption | exact M.kept.row (by assumption) (by simp)); exact Salg.underlying25; rfl; (first | with_reducible exact size25 | (rw [size25]; simp [hrl])); simp only [Act.put, List.setIfInBounds_toArray, List.set_cons_zero, List.set_cons_succ])
          | ((with_reducible apply W_storeK (b := c3)); rfl; rfl; exact M.r0; exact size25; (first | rfl | simp [hrl]); exact one64 _; intro w3 K hr3; replace M := Mem.callPut (L1 := []) M (Or.inr (by assumption)) K hr3; clear K hr3; simp only [List.cons_append, List.nil_append] at M))
        exact ret_cell1 Salg.results48 rfl M.r0 Salg.underlying25 rfl (by rw [size25]; simp [hrl]) rfl ⟨rfl, M.kept⟩
  · have HC := hid (fun w => wBelow_ge xs 31 w hx hLx h)
    have hF : nl 4 (sextN (lval xs) (lval ys)) = ys := by
      rw [sextN, if_neg (by omega)]
      exact nl_all hLy hy
    rw [hF]
    clear hLx hLy h hF
    go_enter Salg.func48, Salg.ntmps48
    go_wp2_with (first
      | ((with_reducible apply L_box (d := 2) M); rfl; clear M; intro c1 w1 hc1 M; simp only [Act.put, List.setIfInBounds_toArray, List.set_cons_zero, List.set_cons_succ])
      | ((with_reducible apply L_box (d := 3) M); rfl; clear M; intro c2 w1 hc2 M; simp only [Act.put, List.setIfInBounds_toArray, List.set_cons_zero, List.set_cons_succ])
      | ((with_reducible apply L_allocA (d := 4) M); exact zero25; clear M; intro c3 w1 hc3 M; simp only [Act.put, List.setIfInBounds_toArray, List.set_cons_zero, List.set_cons_succ])
      | ((with_reducible apply W_loadAll); rfl; (first | with_reducible exact M.r0 | with_reducible exact M.r1 | with_reducible exact M.r2 | with_reducible exact M.r3 | with_reducible exact M.r4 | with_reducible exact M.r5 | with_reducible exact M.r6 | assumption | exact M.kept.row (by assumption) (by simp)); exact Salg.underlying25; rfl; (first | with_reducible exact size25 | (rw [size25]; simp [hx])); simp only [Act.put, List.setIfInBounds_toArray, List.set_cons_zero, List.set_cons_succ]))
    refine (HC.out _).mono ?_
    rintro e w2 ⟨v, rfl, K⟩
    replace M := M.call K
    clear K HC
    go_wp2_with (first
      | ((with_reducible apply W_loadAll); rfl; (first | with_reducible exact M.r0 | with_reducible exact M.r1 | with_reducible exact M.r2 | with_reducible exact M.r3 | with_reducible exact M.r4 | with_reducible exact M.r5 | with_reducible exact M.r6 | assumption | exact M.kept.row (by assumption) (by simp)); exact Salg.underlying25; rfl; (first | with_reducible exact size25 | (rw [size25]; simp [hy])); simp only [Act.put, List.setIfInBounds_toArray, List.set_cons_zero, List.set_cons_succ])
      | ((with_reducible apply W_storeK (b := c3)); rfl; rfl; exact M.r0; exact size25; (first | rfl | simp [hy]); exact one64 _; intro w3 K hr3; replace M := Mem.callPut (L1 := []) M (Or.inr (by assumption)) K hr3; clear K hr3; simp only [List.cons_append, List.nil_append] at M))
    exact ret_cell1 Salg.results48 rfl M.r0 Salg.underlying25 rfl (by rw [size25]; simp [hy]) rfl ⟨rfl, M.kept⟩
end Go.Proofs.YgcsalGreat

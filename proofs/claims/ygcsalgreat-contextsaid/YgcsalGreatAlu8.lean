/-
  The walk of u256's Shl.
-/
import Derived.Test.YgcsalGreatAlu7
set_option linter.unusedSimpArgs false
namespace Go.Own
def carry (r : Nat) : Nat → List Nat → Nat
  | c, [] => c
  | _, x :: l => carry r (x / 2 ^ (64 - r)) l
theorem sul_snoc (r x : Nat) : ∀ (l : List Nat) (c : Nat), sul r c (l ++ [x]) = sul r c l ++ [x * 2 ^ r % 18446744073709551616 + carry r c l]
  | [], c => rfl
  | y :: l, c => by simp only [List.cons_append, sul, carry, sul_snoc r x l]
theorem carry_snoc (r x : Nat) : ∀ (l : List Nat) (c : Nat), carry r c (l ++ [x]) = x / 2 ^ (64 - r)
  | [], c => rfl
  | y :: l, c => by simp only [List.cons_append, carry, carry_snoc r x l]
def ust (ys : List Nat) (q r n : Nat) : List Nat := List.replicate q 0 ++ (sul r 0 (ys.take n) ++ List.replicate (4 - q - n) 0)
theorem ust_length {ys : List Nat} {q r n : Nat} (hy : ys.length = 4) (h : q + n ≤ 4) : (ust ys q r n).length = 4 := by simp [ust, sul_length, hy]; omega
theorem take_snoc {ys : List Nat} {n : Nat} (h : n < ys.length) : ys.take (n + 1) = ys.take n ++ [ys.getD n 0] := by
  rw [getD_get h, List.take_succ_eq_append_getElem h]
theorem carry_take {ys : List Nat} {r n : Nat} (h : n < ys.length) : carry r 0 (ys.take (n + 1)) = ys.getD n 0 / 2 ^ (64 - r) := by rw [take_snoc h, carry_snoc]
theorem ust_set {ys : List Nat} {q r n : Nat} (hy : ys.length = 4) (h : q + n < 4) : (ust ys q r n).set (q + n) (ys.getD n 0 * 2 ^ r % 18446744073709551616 + carry r 0 (ys.take n)) = ust ys q r (n + 1) := by
  have hl : (sul r 0 (ys.take n)).length = n := by simp [sul_length, hy]; omega
  unfold ust
  rw [List.set_append_right _ _ (by simp), List.set_append_right _ _ (by simp [hl]), take_snoc (by omega), sul_snoc, List.append_assoc]
  congr 2
  rw [show 4 - q - n = (4 - q - (n + 1)) + 1 by omega, List.replicate_succ]
  simp [hl]
end Go.Own
namespace Go.Proofs.YgcsalGreat
open Go.RowKit Go.Own
theorem shl_or {y0 y1 r : Nat} (hr : r < 64) (h1 : y1 < 18446744073709551616) : bits .or .u64 ((y0 * 2 ^ r % 18446744073709551616 : Nat) : Int) ((y1 : Int) / 2 ^ (64 - r)) = ((y0 * 2 ^ r % 18446744073709551616 + y1 / 2 ^ (64 - r) : Nat) : Int) := by
  rw [← wrap_shl, div_cast]
  exact up_or hr (up_carry_lt hr h1)

set_option maxHeartbeats 2000000 in
set_option maxRecDepth 100000 in
theorem wShl (xs ys : List Nat) (w : World) (hx : xs.length = 4) (hy : ys.length = 4) (hLx : Limbs xs) (hLy : Limbs ys) :
    Calls Salg.prog 60 #[A64 xs, A64 ys] w fun e w' => e = .returned (A64 (nl 4 (shlN (lval xs) (lval ys)))) ∧ Kept [] w w' := by
  have M := Mem.start w []
  rcases Nat.lt_or_ge (lval xs) 256 with h | h
  · have HC := hid (fun w => wBelow_lt xs 256 w hx hLx h (by decide))
    rw [shlN, Nat.min_eq_left (by omega)]
    have hr64 : lval xs % 64 < 64 := by omega
    have HE := hid (up_all (xs := ys) (q := lval xs / 64) (r := lval xs % 64) hy hLy (by omega) hr64)
    rw [show 64 * (lval xs / 64) + lval xs % 64 = lval xs by omega] at HE
    have HE2 : Hid (ust ys (lval xs / 64) (lval xs % 64) (4 - lval xs / 64) = nl 4 (lval ys * 2 ^ lval xs)) := by
      show _ = _
      rw [← HE.out, ust, Nat.sub_self]
      simp
    have HLY := hid hLy
    clear hLx hLy HE
    generalize lval xs = I at *
    go_enter Salg.func60, Salg.ntmps60
    go_wp2_with (first
      | ((with_reducible apply L_box (d := 2) M); rfl; clear M; intro c1 w1 hc1 M; simp only [Act.put, List.setIfInBounds_toArray, List.set_cons_zero, List.set_cons_succ])
      | ((with_reducible apply L_box (d := 3) M); rfl; clear M; intro c2 w1 hc2 M; simp only [Act.put, List.setIfInBounds_toArray, List.set_cons_zero, List.set_cons_succ])
      | ((with_reducible apply L_allocA (d := 4) M); exact zero25; clear M; intro c3 w1 hc3 M; simp only [Act.put, List.setIfInBounds_toArray, List.set_cons_zero, List.set_cons_succ])
      | ((with_reducible apply W_loadAll); rfl; (first | with_reducible exact M.r0 | with_reducible exact M.r1 | with_reducible exact M.r2 | with_reducible exact M.r3 | with_reducible exact M.r4 | with_reducible exact M.r5 | with_reducible exact M.r6 | assumption | exact M.kept.row (by assumption) (by simp)); exact Salg.underlying25; rfl; (first | with_reducible exact size25 | (rw [size25]; simp [hx])); simp only [Act.put, List.setIfInBounds_toArray, List.set_cons_zero, List.set_cons_succ]))
    refine (HC.out _).mono ?_
    rintro e w2 ⟨rfl, K⟩
    replace M := M.call K
    clear K HC
    go_wp2_with ((with_reducible apply L_allocA (d := 7) M); exact zero25; clear M; intro c4 w1 hc4 M; simp only [Act.put, List.setIfInBounds_toArray, List.set_cons_zero, List.set_cons_succ])
    go_loopw [8] (fun iv wr => ∃ i : Nat, I / 64 ≤ i ∧ i ≤ 4 ∧ iv = .int .u64 i ∧ Mem w [] [(c4, R64 25 (ust ys (I / 64) (I % 64) (i - I / 64))), (c3, R64 25 (List.replicate 4 0)), (c2, R64 25 ys), (c1, R64 25 xs)] wr) (fun iv _ => (4 - intOf iv).toNat)
    case atStart =>
      have h0 : ust ys (I / 64) (I % 64) (I / 64 - I / 64) = List.replicate 4 0 := by
        rw [Nat.sub_self, ust]
        simp only [List.take_zero, sul, List.nil_append, List.replicate_append_replicate, Nat.sub_zero]
        congr 1
        omega
      exact ⟨I / 64, by omega, by omega, rfl, by rw [h0]; exact M⟩
    case round =>
      clear M
      obtain ⟨i, hi, hi4, rfl, M⟩ := hrel
      rcases Nat.lt_or_ge i 4 with hlt | hge
      · have hgi : ys[i - I / 64]? = some (ys.getD (i - I / 64) 0) := by rw [getD_get (by omega)]; exact List.getElem?_eq_getElem _
        have HUS := hid (ust_set (ys := ys) (q := I / 64) (r := I % 64) (n := i - I / 64) hy (by omega))
        rw [show I / 64 + (i - I / 64) = i by omega, show i - I / 64 + 1 = i + 1 - I / 64 by omega] at HUS
        have hul := ust_length (ys := ys) (q := I / 64) (r := I % 64) (n := i - I / 64) hy (by omega)
        rcases Nat.lt_or_ge (I / 64) i with hgt | hle
        · have hgj : ys[i - I / 64 - 1]? = some (ys.getD (i - I / 64 - 1) 0) := by rw [getD_get (by omega)]; exact List.getElem?_eq_getElem _
          have hjl : ys.getD (i - I / 64 - 1) 0 < 18446744073709551616 := by rw [getD_get (by omega)]; exact HLY.out.get _
          have hca := carry_take (ys := ys) (r := I % 64) (n := i - I / 64 - 1) (by omega)
          rw [show i - I / 64 - 1 + 1 = i - I / 64 by omega] at hca
          rw [hca] at HUS
          clear hca
          generalize ys.getD (i - I / 64) 0 = y0 at *
          generalize ys.getD (i - I / 64 - 1) 0 = y1 at *
          generalize ust ys (I / 64) (I % 64) (i - I / 64) = cur at *
          have hdd : decide (((I : Int) / 64) < (i : Int)) = true := by simp; omega
          go_wp2_with (first
            | ((with_reducible apply W_loadCell); rfl; (first | with_reducible exact M.r0 | with_reducible exact M.r1 | with_reducible exact M.r2 | with_reducible exact M.r3 | with_reducible exact M.r4 | with_reducible exact M.r5 | with_reducible exact M.r6 | assumption | exact M.kept.row (by assumption) (by simp)); (first | exact get_map (by assumption) | exact get_map rfl | rfl); exact Salg.underlying23; rfl; simp only [Act.put, List.setIfInBounds_toArray, List.set_cons_zero, List.set_cons_succ])
            | ((with_reducible apply W_st64K (b := c4) (o := i) (m := y0 * 2 ^ (I % 64) % 18446744073709551616)); rfl; rfl; exact wrap_shl _ _; exact M.r0; exact size23; (rw [hul]; omega); intro w3 K hr3; replace M := Mem.callPut (L1 := []) M (Or.inr (by assumption)) K hr3; clear K hr3; simp only [List.cons_append, List.nil_append] at M))
          have hg2 : (cur.set i (y0 * 2 ^ (I % 64) % 18446744073709551616))[i]? = some (y0 * 2 ^ (I % 64) % 18446744073709551616) := by rw [List.getElem?_set_self (by omega)]
          have hsl : (cur.set i (y0 * 2 ^ (I % 64) % 18446744073709551616)).length = 4 := by rw [List.length_set, hul]
          refine S_region (by kernel_rfl) ?_
          refine V_quiet 0 15 (by kernel_rfl) (by decide) M.drew ?_
          clear M
          simp only [List.take_succ_cons, List.take_zero, List.drop_zero, List.drop_succ_cons, Nat.sub_zero, Nat.reduceSub]
          ((with_reducible apply V_run); rfl; (intro w M; go_simp; (try go_ints); (try simp only [↓IntWalk.iteOmega]); (try with_reducible rfl)); simp only [Act.put, List.setIfInBounds_toArray, List.set_cons_zero, List.set_cons_succ])
          ((with_reducible apply V_run); rfl; (intro w M; go_simp; (try go_ints); (try simp only [↓IntWalk.iteOmega]); (try with_reducible rfl)); simp only [Act.put, List.setIfInBounds_toArray, List.set_cons_zero, List.set_cons_succ])
          ((with_reducible apply V_run); rfl; (intro w M; exact run_loadCell (by (first | with_reducible exact M.r0 | with_reducible exact M.r1 | with_reducible exact M.r2 | with_reducible exact M.r3 | with_reducible exact M.r4 | with_reducible exact M.r5 | with_reducible exact M.r6 | assumption | exact M.kept.row (by assumption) (by simp))) rfl (by (first | exact get_map (by assumption) | exact get_map rfl | rfl)) Salg.underlying23 rfl); simp only [Act.put, List.setIfInBounds_toArray, List.set_cons_zero, List.set_cons_succ])
          ((with_reducible apply V_run); rfl; (intro w M; go_simp; (try go_ints); (try simp only [↓IntWalk.iteOmega]); (try with_reducible rfl)); simp only [Act.put, List.setIfInBounds_toArray, List.set_cons_zero, List.set_cons_succ])
          ((with_reducible apply V_run); rfl; (intro w M; go_simp; (try go_ints); (try simp only [↓IntWalk.iteOmega]); (try with_reducible rfl)); simp only [Act.put, List.setIfInBounds_toArray, List.set_cons_zero, List.set_cons_succ])
          ((with_reducible apply V_run); rfl; (intro w M; go_simp; (try go_ints); (try simp only [↓IntWalk.iteOmega]); (try with_reducible rfl)); simp only [Act.put, List.setIfInBounds_toArray, List.set_cons_zero, List.set_cons_succ])
          ((with_reducible apply V_run); rfl; (intro w M; go_simp; (try go_ints); (try simp only [↓IntWalk.iteOmega]); (try with_reducible rfl)); simp only [Act.put, List.setIfInBounds_toArray, List.set_cons_zero, List.set_cons_succ])
          ((with_reducible apply V_run); rfl; (intro w M; go_simp; (try go_ints); (try simp only [↓IntWalk.iteOmega]); (try with_reducible rfl)); simp only [Act.put, List.setIfInBounds_toArray, List.set_cons_zero, List.set_cons_succ])
          ((with_reducible apply V_run); rfl; (intro w M; go_simp; (try go_ints); (try simp only [↓IntWalk.iteOmega]); (try with_reducible rfl)); simp only [Act.put, List.setIfInBounds_toArray, List.set_cons_zero, List.set_cons_succ])
          ((with_reducible apply V_run); rfl; (intro w M; exact run_loadCell (by (first | with_reducible exact M.r0 | with_reducible exact M.r1 | with_reducible exact M.r2 | with_reducible exact M.r3 | with_reducible exact M.r4 | with_reducible exact M.r5 | with_reducible exact M.r6 | assumption | exact M.kept.row (by assumption) (by simp))) rfl (by (first | exact get_map (by assumption) | exact get_map rfl | rfl)) Salg.underlying23 rfl); simp only [Act.put, List.setIfInBounds_toArray, List.set_cons_zero, List.set_cons_succ])
          ((with_reducible apply V_run); rfl; (intro w M; go_simp; (try go_ints); (try simp only [↓IntWalk.iteOmega]); (try with_reducible rfl)); simp only [Act.put, List.setIfInBounds_toArray, List.set_cons_zero, List.set_cons_succ])
          ((with_reducible apply V_run); rfl; (intro w M; go_simp; (try go_ints); (try simp only [↓IntWalk.iteOmega]); (try with_reducible rfl)); simp only [Act.put, List.setIfInBounds_toArray, List.set_cons_zero, List.set_cons_succ])
          ((with_reducible apply V_run); rfl; (intro w M; go_simp; (try go_ints); (try simp only [↓IntWalk.iteOmega]); (try with_reducible rfl)); simp only [Act.put, List.setIfInBounds_toArray, List.set_cons_zero, List.set_cons_succ])
          ((with_reducible apply V_run); rfl; (intro w M; go_simp; (try go_ints); (try simp only [↓IntWalk.iteOmega]); (try with_reducible rfl)); simp only [Act.put, List.setIfInBounds_toArray, List.set_cons_zero, List.set_cons_succ])
          ((with_reducible apply V_run); rfl; (intro w M; go_simp; (try go_ints); (try simp only [↓IntWalk.iteOmega]); (try with_reducible rfl)); simp only [Act.put, List.setIfInBounds_toArray, List.set_cons_zero, List.set_cons_succ])
          refine V_nil ?_
          intro w4 M
          refine S_seg 15 17 (by kernel_rfl) (by decide) ?_
          simp only [List.take_succ_cons, List.take_zero, List.drop_zero, List.drop_succ_cons, Nat.sub_zero, Nat.reduceSub]
          go_wp2_with ((with_reducible apply W_st64K (b := c4) (o := i) (m := y0 * 2 ^ (I % 64) % 18446744073709551616 + y1 / 2 ^ (64 - I % 64))); rfl; rfl; exact shl_or hr64 hjl; exact M.r0; exact size23; (rw [hsl]; omega); intro w3 K hr3; replace M := Mem.callPut (L1 := []) M (Or.inr (by assumption)) K hr3; clear K hr3; simp only [List.cons_append, List.nil_append] at M)
          refine S_done ?_
          rw [List.set_set, HUS.out] at M
          go_wp2_with fail
          go_roundw
          case rel => exact ⟨i + 1, by omega, by omega, by go_num, M⟩
          case measure => simp [intOf]; omega
        · have hi0 : i = I / 64 := by omega
          have hca : carry (I % 64) 0 (ys.take (i - I / 64)) = 0 := by rw [show i - I / 64 = 0 by omega]; rfl
          rw [hca, Nat.add_zero] at HUS
          clear hca
          generalize ys.getD (i - I / 64) 0 = y0 at *
          generalize ust ys (I / 64) (I % 64) (i - I / 64) = cur at *
          have HI0 := hid hi0
          clear hi0
          go_wp2_with (first
            | ((with_reducible apply W_loadCell); rfl; (first | with_reducible exact M.r0 | with_reducible exact M.r1 | with_reducible exact M.r2 | with_reducible exact M.r3 | with_reducible exact M.r4 | with_reducible exact M.r5 | with_reducible exact M.r6 | assumption | exact M.kept.row (by assumption) (by simp)); (first | exact get_map (by assumption) | exact get_map rfl | rfl); exact Salg.underlying23; rfl; simp only [Act.put, List.setIfInBounds_toArray, List.set_cons_zero, List.set_cons_succ])
            | ((with_reducible apply W_st64K (b := c4) (o := i) (m := y0 * 2 ^ (I % 64) % 18446744073709551616)); rfl; rfl; exact wrap_shl _ _; exact M.r0; exact size23; (rw [hul]; omega); intro w3 K hr3; replace M := Mem.callPut (L1 := []) M (Or.inr (by assumption)) K hr3; clear K hr3; simp only [List.cons_append, List.nil_append] at M))
          rw [HUS.out] at M
          go_roundw
          case rel => exact ⟨i + 1, by omega, by omega, by go_num, M⟩
          case measure => simp [intOf]; omega
      · have hi' : i = 4 := by omega
        subst hi'
        rw [HE2.out] at M
        have hrl := nl_length 4 (lval ys * 2 ^ I)
        go_wp2_with (first
          | ((with_reducible apply W_loadAll); rfl; (first | with_reducible exact M.r0 | with_reducible exact M.r1 | with_reducible exact M.r2 | with_reducible exact M.r3 | with_reducible exact M.r4 | with_reducible exact M.r5 | with_reducible exact M.r6 | assumption | exact M.kept.row (by assumption) (by simp)); exact Salg.underlying25; rfl; (first | with_reducible exact size25 | (rw [size25]; simp [hrl])); simp only [Act.put, List.setIfInBounds_toArray, List.set_cons_zero, List.set_cons_succ])
          | ((with_reducible apply W_storeK (b := c3)); rfl; rfl; exact M.r1; exact size25; (first | rfl | simp [hrl]); exact one64 _; intro w3 K hr3; replace M := Mem.callPut (L1 := [_]) M (Or.inr (by assumption)) K hr3; clear K hr3; simp only [List.cons_append, List.nil_append] at M))
        exact ret_cell1 Salg.results60 rfl M.r1 Salg.underlying25 rfl (by rw [size25]; simp [hrl]) rfl ⟨rfl, M.kept⟩
  · have HC := hid (fun w => wBelow_ge xs 256 w hx hLx h)
    have hF : nl 4 (shlN (lval xs) (lval ys)) = [0, 0, 0, 0] := by
      refine (nl_of_mod (k := 4) (l := [0, 0, 0, 0]) (by intro z hz; simp at hz; omega) rfl ?_).symm
      rw [shlN, Nat.min_eq_right h, show (2 : Nat) ^ 256 = 18446744073709551616 ^ 4 from by decide, Nat.mul_mod_left]
      rfl
    rw [hF]
    clear hLx hLy h hF
    go_enter Salg.func60, Salg.ntmps60
    go_wp2_with (first
      | ((with_reducible apply L_box (d := 2) M); rfl; clear M; intro c1 w1 hc1 M; simp only [Act.put, List.setIfInBounds_toArray, List.set_cons_zero, List.set_cons_succ])
      | ((with_reducible apply L_box (d := 3) M); rfl; clear M; intro c2 w1 hc2 M; simp only [Act.put, List.setIfInBounds_toArray, List.set_cons_zero, List.set_cons_succ])
      | ((with_reducible apply L_allocA (d := 4) M); exact zero25; clear M; intro c3 w1 hc3 M; simp only [Act.put, List.setIfInBounds_toArray, List.set_cons_zero, List.set_cons_succ])
      | ((with_reducible apply W_loadAll); rfl; (first | with_reducible exact M.r0 | with_reducible exact M.r1 | with_reducible exact M.r2 | with_reducible exact M.r3 | with_reducible exact M.r4 | with_reducible exact M.r5 | with_reducible exact M.r6 | assumption | exact M.kept.row (by assumption) (by simp)); exact Salg.underlying25; rfl; (first | with_reducible exact size25 | (rw [size25]; simp [hx])); simp only [Act.put, List.setIfInBounds_toArray, List.set_cons_zero, List.set_cons_succ]))
    refine (HC.out _).mono ?_
    rintro e w2 ⟨v, rfl, K⟩
    replace M := M.call K
    clear K HC
    go_wp2_with ((with_reducible apply W_storeK (b := c3) (vs := (([0, 0, 0, 0] : List Nat).map n64).toArray)); rfl; rfl; exact M.r0; exact size25; (first | rfl | simp []); exact one64 _; intro w3 K hr3; replace M := Mem.callPut (L1 := []) M (Or.inr (by assumption)) K hr3; clear K hr3; simp only [List.cons_append, List.nil_append] at M)
    exact ret_cell1 Salg.results60 rfl M.r0 Salg.underlying25 rfl size25 rfl ⟨rfl, M.kept⟩
end Go.Proofs.YgcsalGreat

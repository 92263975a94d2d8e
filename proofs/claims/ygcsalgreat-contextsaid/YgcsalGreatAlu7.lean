/-
  The walks of u256: Byte, down, Shr, Sar.
-/
import Derived.Test.YgcsalGreatAlu5
import Derived.Test.YgcsalGreatPlainN
set_option linter.unusedSimpArgs false
namespace Go.Proofs.YgcsalGreat
open Go.RowKit Go.Own

theorem wBelow_ge (xs : List Nat) (n : Nat) (w : World) (hx : xs.length = 4) (hLx : Limbs xs) (h : n ≤ lval xs) :
    Calls Salg.prog 138 #[A64 xs, .int .u64 n] w fun e w' => ∃ v : Nat, e = .returned (.tuple #[n64 v, .bool false]) ∧ Kept [] w w' := by
  rcases Nat.lt_or_ge (lval xs) 18446744073709551616 with h1 | h1
  · refine (wBelow_yes xs n w hx hLx h1).mono ?_
    rintro e w' ⟨rfl, K⟩
    exact ⟨_, by rw [decide_eq_false (by omega)], K⟩
  · exact (wBelow_no xs n w hx hLx h1).mono (fun e w' ⟨h, K⟩ => ⟨0, h, K⟩)
theorem wBelow_lt (xs : List Nat) (n : Nat) (w : World) (hx : xs.length = 4) (hLx : Limbs xs) (h : lval xs < n) (hn : n ≤ 18446744073709551616) :
    Calls Salg.prog 138 #[A64 xs, .int .u64 n] w fun e w' => e = .returned (.tuple #[n64 (lval xs), .bool true]) ∧ Kept [] w w' := by
  have := wBelow_yes xs n w hx hLx (by omega)
  rwa [decide_eq_true h] at this
theorem byte_and (y u : Nat) (hy : y < 18446744073709551616) : bits .and .u64 ((y : Int) / 2 ^ u) 255 = ((y / 2 ^ u % 256 : Nat) : Int) := by
  rw [div_cast]
  have h1 : y / 2 ^ u < 18446744073709551616 := Nat.lt_of_le_of_lt (Nat.div_le_self _ _) hy
  have h := bits_and_u64_nat (y / 2 ^ u) 255 h1 (by omega)
  rw [show y / 2 ^ u &&& 255 = y / 2 ^ u % 256 from Nat.and_two_pow_sub_one_eq_mod _ 8] at h
  exact h
theorem nl_all {l : List Nat} {k : Nat} (h : Limbs l) (hk : l.length = k) : nl k (lval l) = l :=
  (nl_of_mod h hk (by rw [Nat.mod_eq_of_lt]; have := lval_lt h; rwa [hk] at this)).symm
theorem fill_int (d : Nat) (hd : d < 18446744073709551616) : IntKind.u64.wrap (wrap64 (d : Int) / 9223372036854775808) = ((if decide (9223372036854775808 ≤ d) = true then 18446744073709551615 else 0 : Nat) : Int) := by
  rw [IntKind.wrap_u64]
  unfold wrap64
  by_cases h : 9223372036854775808 ≤ d
  · rw [if_pos (by simpa using h)]
    omega
  · rw [if_neg (by simpa using h)]
    omega
theorem dst_length (xs : List Nat) (f q r : Nat) {n : Nat} (h : n ≤ 4) : (dst xs f q r n).length = 4 := by simp [dst]; omega
theorem dst_set (xs : List Nat) (f q r n : Nat) (h : n < 4) : (dst xs f q r n).set n (dnl xs f r (q + n)) = dst xs f q r (n + 1) := by
  unfold dst
  rw [List.set_append_right _ _ (by simp), List.range_succ, List.map_append, List.append_assoc]
  congr 1
  rw [show 4 - n = (4 - (n + 1)) + 1 by omega, List.replicate_succ]
  simp

set_option maxHeartbeats 2000000 in
set_option maxRecDepth 100000 in
theorem wByte (xs ys : List Nat) (w : World) (hx : xs.length = 4) (hy : ys.length = 4) (hLx : Limbs xs) (hLy : Limbs ys) :
    Calls Salg.prog 59 #[A64 xs, A64 ys] w fun e w' => e = .returned (A64 (nl 4 (byteN (lval xs) (lval ys)))) ∧ Kept [] w w' := by
  have M := Mem.start w []
  rcases Nat.lt_or_ge (lval xs) 32 with h | h
  · have HC := hid (fun w => wBelow_lt xs 32 w hx hLx h (by decide))
    have hb := lval_byte hLy hy h
    have hg : ys[3 - lval xs / 8]? = some (ys.getD (3 - lval xs / 8) 0) := by rw [getD_get (by omega)]; exact List.getElem?_eq_getElem _
    have hyl : ys.getD (3 - lval xs / 8) 0 < 18446744073709551616 := by rw [getD_get (by omega)]; exact hLy.get _
    have hbl : byteN (lval xs) (lval ys) < 256 := by rw [← hb]; exact Nat.mod_lt _ (by decide)
    have hnl : nl 4 (byteN (lval xs) (lval ys)) = [byteN (lval xs) (lval ys), 0, 0, 0] := (nl_of_mod (k := 4) (l := [byteN (lval xs) (lval ys), 0, 0, 0]) (by intro z hz; simp at hz; rcases hz with rfl | rfl <;> omega) rfl (by rw [Nat.mod_eq_of_lt (by omega)]; simp [lval])).symm
    rw [hnl]
    rw [← hb]
    clear hb hbl hnl hLx hLy
    generalize lval xs = I at *
    generalize ys.getD (3 - I / 8) 0 = y at *
    go_enter Salg.func59, Salg.ntmps59
    go_wp2_with (first
      | ((with_reducible apply L_box (d := 2) M); rfl; clear M; intro c1 w1 hc1 M; simp only [Act.put, List.setIfInBounds_toArray, List.set_cons_zero, List.set_cons_succ])
      | ((with_reducible apply L_box (d := 3) M); rfl; clear M; intro c2 w1 hc2 M; simp only [Act.put, List.setIfInBounds_toArray, List.set_cons_zero, List.set_cons_succ])
      | ((with_reducible apply L_allocA (d := 4) M); exact zero25; clear M; intro c3 w1 hc3 M; simp only [Act.put, List.setIfInBounds_toArray, List.set_cons_zero, List.set_cons_succ])
      | ((with_reducible apply W_loadAll); rfl; (first | with_reducible exact M.r0 | with_reducible exact M.r1 | with_reducible exact M.r2 | with_reducible exact M.r3 | with_reducible exact M.r4 | with_reducible exact M.r5 | with_reducible exact M.r6 | assumption | exact M.kept.row (by assumption) (by simp)); exact Salg.underlying25; rfl; (first | with_reducible exact size25 | (rw [size25]; simp [hx])); simp only [Act.put, List.setIfInBounds_toArray, List.set_cons_zero, List.set_cons_succ]))
    refine (HC.out _).mono ?_
    rintro e w2 ⟨rfl, K⟩
    replace M := M.call K
    clear K HC
    go_wp2_with (first
      | ((with_reducible apply W_loadCell); rfl; (first | with_reducible exact M.r0 | with_reducible exact M.r1 | with_reducible exact M.r2 | with_reducible exact M.r3 | with_reducible exact M.r4 | with_reducible exact M.r5 | with_reducible exact M.r6 | assumption | exact M.kept.row (by assumption) (by simp)); (first | exact get_map (by assumption) | exact get_map rfl | rfl); exact Salg.underlying23; rfl; simp only [Act.put, List.setIfInBounds_toArray, List.set_cons_zero, List.set_cons_succ])
      | ((with_reducible apply W_storeK (b := c3) (vs := (([y / 2 ^ (56 - 8 * (I % 8)) % 256, 0, 0, 0] : List Nat).map n64).toArray)); rfl; exact congrArg (fun z => Value.agg #[.int .u64 z, .int .u64 0, .int .u64 0, .int .u64 0]) (byte_and _ _ hyl); exact M.r0; exact size25; rfl; exact one64 _; intro w3 K hr3; replace M := Mem.callPut (L1 := []) M (Or.inr (by assumption)) K hr3; clear K hr3; simp only [List.cons_append, List.nil_append] at M))
    exact ret_cell1 Salg.results59 rfl M.r0 Salg.underlying25 rfl size25 rfl ⟨rfl, M.kept⟩
  · have HC := hid (fun w => wBelow_ge xs 32 w hx hLx h)
    have hz : byteN (lval xs) (lval ys) = 0 := by rw [byteN, if_neg (by omega)]
    rw [hz]
    clear hLx hLy h hz
    go_enter Salg.func59, Salg.ntmps59
    go_wp2_with (first
      | ((with_reducible apply L_box (d := 2) M); rfl; clear M; intro c1 w1 hc1 M; simp only [Act.put, List.setIfInBounds_toArray, List.set_cons_zero, List.set_cons_succ])
      | ((with_reducible apply L_box (d := 3) M); rfl; clear M; intro c2 w1 hc2 M; simp only [Act.put, List.setIfInBounds_toArray, List.set_cons_zero, List.set_cons_succ])
      | ((with_reducible apply L_allocA (d := 4) M); exact zero25; clear M; intro c3 w1 hc3 M; simp only [Act.put, List.setIfInBounds_toArray, List.set_cons_zero, List.set_cons_succ])
      | ((with_reducible apply W_loadAll); rfl; (first | with_reducible exact M.r0 | with_reducible exact M.r1 | with_reducible exact M.r2 | with_reducible exact M.r3 | with_reducible exact M.r4 | with_reducible exact M.r5 | with_reducible exact M.r6 | assumption | exact M.kept.row (by assumption) (by simp)); exact Salg.underlying25; rfl; (first | with_reducible exact size25 | (rw [size25]; simp [hx])); simp only [Act.put, List.setIfInBounds_toArray, List.set_cons_zero, List.set_cons_succ]))
    refine (HC.out _).mono ?_
    rintro e w2 ⟨v, rfl, K⟩
    replace M := M.call K
    clear K HC
    go_wp2_with ((with_reducible apply W_storeK (b := c3) (vs := (([0, 0, 0, 0] : List Nat).map n64).toArray)); rfl; rfl; exact M.r0; exact size25; (first | rfl | simp []); exact one64 _; intro w3 K hr3; replace M := Mem.callPut (L1 := []) M (Or.inr (by assumption)) K hr3; clear K hr3; simp only [List.cons_append, List.nil_append] at M)
    exact ret_cell1 Salg.results59 rfl M.r0 Salg.underlying25 rfl size25 rfl ⟨rfl, M.kept⟩

set_option maxHeartbeats 2000000 in
set_option maxRecDepth 100000 in
theorem wDown (xs ys : List Nat) (f : Nat) (w : World) (hx : xs.length = 4) (hy : ys.length = 4) (hLx : Limbs xs) (hLy : Limbs ys) (hf : f = 0 ∨ f = 18446744073709551615) :
    Calls Salg.prog 139 #[A64 xs, A64 ys, .int .u64 f] w fun e w' => e = .returned (A64 (nl 4 ((lval ys + 18446744073709551616 ^ 4 * lval [f, f, f, f]) / 2 ^ (min (lval xs) 256)))) ∧ Kept [] w w' := by
  have M := Mem.start w []
  have hfl : f < 18446744073709551616 := by omega
  rcases Nat.lt_or_ge (lval xs) 256 with h | h
  · have HC := hid (fun w => wBelow_lt xs 256 w hx hLx h (by decide))
    rw [Nat.min_eq_left (by omega)]
    obtain ⟨q, hq⟩ : ∃ q, q = lval xs / 64 := ⟨_, rfl⟩
    obtain ⟨r, hr⟩ : ∃ r, r = lval xs % 64 := ⟨_, rfl⟩
    have hq4 : q < 4 := by omega
    have hr64 : r < 64 := by omega
    have HE := hid (dn_all (xs := ys) (f := f) hy hLy hq4 hr64 hf)
    rw [show 64 * q + r = lval xs by omega] at HE
    have HLY := hid hLy
    clear hLx hLy
    generalize lval xs = I at *
    go_enter Salg.func139, Salg.ntmps139
    go_wp2_with (first
      | ((with_reducible apply L_box (d := 3) M); rfl; clear M; intro c1 w1 hc1 M; simp only [Act.put, List.setIfInBounds_toArray, List.set_cons_zero, List.set_cons_succ])
      | ((with_reducible apply L_box (d := 4) M); rfl; clear M; intro c2 w1 hc2 M; simp only [Act.put, List.setIfInBounds_toArray, List.set_cons_zero, List.set_cons_succ])
      | ((with_reducible apply L_allocA (d := 6) M); exact zero25; clear M; intro c3 w1 hc3 M; simp only [Act.put, List.setIfInBounds_toArray, List.set_cons_zero, List.set_cons_succ])
      | ((with_reducible apply L_allocA (d := 7) M); exact zero25; clear M; intro c4 w1 hc4 M; simp only [Act.put, List.setIfInBounds_toArray, List.set_cons_zero, List.set_cons_succ])
      | ((with_reducible apply W_storeK (b := c4) (vs := (([f, f, f, f] : List Nat).map n64).toArray)); rfl; rfl; exact M.r0; exact size25; (first | rfl | simp []); exact one64 _; intro w3 K hr3; replace M := Mem.callPut (L1 := []) M (Or.inr (by assumption)) K hr3; clear K hr3; simp only [List.cons_append, List.nil_append] at M)
      | ((with_reducible apply W_loadAll); rfl; (first | with_reducible exact M.r0 | with_reducible exact M.r1 | with_reducible exact M.r2 | with_reducible exact M.r3 | with_reducible exact M.r4 | with_reducible exact M.r5 | with_reducible exact M.r6 | assumption | exact M.kept.row (by assumption) (by simp)); exact Salg.underlying25; rfl; (first | with_reducible exact size25 | (rw [size25]; simp [hx])); simp only [Act.put, List.setIfInBounds_toArray, List.set_cons_zero, List.set_cons_succ]))
    refine (HC.out _).mono ?_
    rintro e w2 ⟨rfl, K⟩
    replace M := M.call K
    clear K HC
    subst hq hr
    go_wp2_with fail
    go_loopw [10] (fun iv wr => ∃ i : Nat, I / 64 ≤ i ∧ i ≤ 4 ∧ iv = .int .u64 i ∧ Mem w [] [(c4, R64 25 (dst ys f (I / 64) (I % 64) (i - I / 64))), (c3, R64 25 (List.replicate 4 0)), (c2, R64 25 ys), (c1, R64 25 xs)] wr) (fun iv _ => (4 - intOf iv).toNat)
    case atStart => exact ⟨I / 64, by omega, by omega, rfl, by rw [Nat.sub_self]; exact M⟩
    case round =>
      clear M
      obtain ⟨i, hi, hi4, rfl, M⟩ := hrel
      rcases Nat.lt_or_ge i 4 with hlt | hge
      · have hgi : ys[i]? = some (ys.getD i 0) := by rw [getD_get (by omega)]; exact List.getElem?_eq_getElem _
        have hil : ys.getD i 0 < 18446744073709551616 := by rw [getD_get (by omega)]; exact HLY.out.get _
        have HDS := hid (dst_set ys f (I / 64) (I % 64) (i - I / 64) (by omega))
        rw [show I / 64 + (i - I / 64) = i by omega, show i - I / 64 + 1 = i + 1 - I / 64 by omega] at HDS
        have hdl := dst_length ys f (I / 64) (I % 64) (n := i - I / 64) (by omega)
        rcases Nat.lt_or_ge i 3 with h3 | h3
        · have hgj : ys[i + 1]? = some (ys.getD (i + 1) 0) := by rw [getD_get (by omega)]; exact List.getElem?_eq_getElem _
          have hdn : dnl ys f (I % 64) i = ys.getD i 0 / 2 ^ (I % 64) + ys.getD (i + 1) 0 % 2 ^ (I % 64) * 2 ^ (64 - I % 64) := by rw [dnl, lb, lb, if_pos hlt, if_pos (by omega)]
          rw [hdn] at HDS
          clear hdn
          generalize ys.getD i 0 = y0 at *
          generalize ys.getD (i + 1) 0 = y1 at *
          generalize dst ys f (I / 64) (I % 64) (i - I / 64) = cur at *
          go_wp2_with (first
            | ((with_reducible apply W_loadCell); rfl; (first | with_reducible exact M.r0 | with_reducible exact M.r1 | with_reducible exact M.r2 | with_reducible exact M.r3 | with_reducible exact M.r4 | with_reducible exact M.r5 | with_reducible exact M.r6 | assumption | exact M.kept.row (by assumption) (by simp)); (first | exact get_map (by assumption) | exact get_map rfl | rfl); exact Salg.underlying23; rfl; simp only [Act.put, List.setIfInBounds_toArray, List.set_cons_zero, List.set_cons_succ])
            | ((with_reducible apply W_st64K (b := c4) (o := i - I / 64) (m := y0 / 2 ^ (I % 64) + y1 % 2 ^ (I % 64) * 2 ^ (64 - I % 64))); rfl; rfl; (rw [wrap_shl_down hr64]; exact down_or hr64 hil); exact M.r0; exact size23; (rw [hdl]; omega); intro w3 K hr3; replace M := Mem.callPut (L1 := []) M (Or.inr (by assumption)) K hr3; clear K hr3; simp only [List.cons_append, List.nil_append] at M))
          rw [HDS.out] at M
          go_roundw
          case rel => exact ⟨i + 1, by omega, by omega, by go_num, M⟩
          case measure => simp [intOf]; omega
        · have hdn : dnl ys f (I % 64) i = ys.getD i 0 / 2 ^ (I % 64) + f % 2 ^ (I % 64) * 2 ^ (64 - I % 64) := by rw [dnl, lb, lb, if_pos hlt, if_neg (by omega)]
          rw [hdn] at HDS
          clear hdn
          generalize ys.getD i 0 = y0 at *
          generalize dst ys f (I / 64) (I % 64) (i - I / 64) = cur at *
          go_wp2_with (first
            | ((with_reducible apply W_loadCell); rfl; (first | with_reducible exact M.r0 | with_reducible exact M.r1 | with_reducible exact M.r2 | with_reducible exact M.r3 | with_reducible exact M.r4 | with_reducible exact M.r5 | with_reducible exact M.r6 | assumption | exact M.kept.row (by assumption) (by simp)); (first | exact get_map (by assumption) | exact get_map rfl | rfl); exact Salg.underlying23; rfl; simp only [Act.put, List.setIfInBounds_toArray, List.set_cons_zero, List.set_cons_succ])
            | ((with_reducible apply W_st64K (b := c4) (o := i - I / 64) (m := y0 / 2 ^ (I % 64) + f % 2 ^ (I % 64) * 2 ^ (64 - I % 64))); rfl; rfl; (rw [wrap_shl_down hr64]; exact down_or hr64 hil); exact M.r0; exact size23; (rw [hdl]; omega); intro w3 K hr3; replace M := Mem.callPut (L1 := []) M (Or.inr (by assumption)) K hr3; clear K hr3; simp only [List.cons_append, List.nil_append] at M))
          rw [HDS.out] at M
          go_roundw
          case rel => exact ⟨i + 1, by omega, by omega, by go_num, M⟩
          case measure => simp [intOf]; omega
      · have hi' : i = 4 := by omega
        subst hi'
        rw [HE.out] at M
        have hrl := nl_length 4 ((lval ys + 18446744073709551616 ^ 4 * lval [f, f, f, f]) / 2 ^ I)
        clear HE
        go_wp2_with (first
          | ((with_reducible apply W_loadAll); rfl; (first | with_reducible exact M.r0 | with_reducible exact M.r1 | with_reducible exact M.r2 | with_reducible exact M.r3 | with_reducible exact M.r4 | with_reducible exact M.r5 | with_reducible exact M.r6 | assumption | exact M.kept.row (by assumption) (by simp)); exact Salg.underlying25; rfl; (first | with_reducible exact size25 | (rw [size25]; simp [hrl])); simp only [Act.put, List.setIfInBounds_toArray, List.set_cons_zero, List.set_cons_succ])
          | ((with_reducible apply W_storeK (b := c3)); rfl; rfl; exact M.r1; exact size25; (first | rfl | simp [hrl]); exact one64 _; intro w3 K hr3; replace M := Mem.callPut (L1 := [_]) M (Or.inr (by assumption)) K hr3; clear K hr3; simp only [List.cons_append, List.nil_append] at M))
        exact ret_cell1 Salg.results139 rfl M.r1 Salg.underlying25 rfl (by rw [size25]; simp [hrl]) rfl ⟨rfl, M.kept⟩
  · have HC := hid (fun w => wBelow_ge xs 256 w hx hLx h)
    have hyl := lval_lt hLy
    rw [hy] at hyl
    have hF : nl 4 ((lval ys + 18446744073709551616 ^ 4 * lval [f, f, f, f]) / 2 ^ (min (lval xs) 256)) = [f, f, f, f] := by
      rw [Nat.min_eq_right h, show (2 : Nat) ^ 256 = 18446744073709551616 ^ 4 from by decide, Nat.add_mul_div_left _ _ (by decide), Nat.div_eq_of_lt hyl, Nat.zero_add]
      exact nl_all (by intro z hz; simp at hz; omega) rfl
    rw [hF]
    clear hLx hLy h hyl hF hfl hf
    go_enter Salg.func139, Salg.ntmps139
    go_wp2_with (first
      | ((with_reducible apply L_box (d := 3) M); rfl; clear M; intro c1 w1 hc1 M; simp only [Act.put, List.setIfInBounds_toArray, List.set_cons_zero, List.set_cons_succ])
      | ((with_reducible apply L_box (d := 4) M); rfl; clear M; intro c2 w1 hc2 M; simp only [Act.put, List.setIfInBounds_toArray, List.set_cons_zero, List.set_cons_succ])
      | ((with_reducible apply L_allocA (d := 6) M); exact zero25; clear M; intro c3 w1 hc3 M; simp only [Act.put, List.setIfInBounds_toArray, List.set_cons_zero, List.set_cons_succ])
      | ((with_reducible apply L_allocA (d := 7) M); exact zero25; clear M; intro c4 w1 hc4 M; simp only [Act.put, List.setIfInBounds_toArray, List.set_cons_zero, List.set_cons_succ])
      | ((with_reducible apply W_storeK (b := c4) (vs := (([f, f, f, f] : List Nat).map n64).toArray)); rfl; rfl; exact M.r0; exact size25; (first | rfl | simp []); exact one64 _; intro w3 K hr3; replace M := Mem.callPut (L1 := []) M (Or.inr (by assumption)) K hr3; clear K hr3; simp only [List.cons_append, List.nil_append] at M)
      | ((with_reducible apply W_loadAll); rfl; (first | with_reducible exact M.r0 | with_reducible exact M.r1 | with_reducible exact M.r2 | with_reducible exact M.r3 | with_reducible exact M.r4 | with_reducible exact M.r5 | with_reducible exact M.r6 | assumption | exact M.kept.row (by assumption) (by simp)); exact Salg.underlying25; rfl; (first | with_reducible exact size25 | (rw [size25]; simp [hx])); simp only [Act.put, List.setIfInBounds_toArray, List.set_cons_zero, List.set_cons_succ]))
    refine (HC.out _).mono ?_
    rintro e w2 ⟨v, rfl, K⟩
    replace M := M.call K
    clear K HC
    go_wp2_with (first
      | ((with_reducible apply W_loadAll); rfl; (first | with_reducible exact M.r0 | with_reducible exact M.r1 | with_reducible exact M.r2 | with_reducible exact M.r3 | with_reducible exact M.r4 | with_reducible exact M.r5 | with_reducible exact M.r6 | assumption | exact M.kept.row (by assumption) (by simp)); exact Salg.underlying25; rfl; (first | with_reducible exact size25 | (rw [size25]; simp [hx])); simp only [Act.put, List.setIfInBounds_toArray, List.set_cons_zero, List.set_cons_succ])
      | ((with_reducible apply W_storeK (b := c3)); rfl; rfl; exact M.r1; exact size25; (first | rfl | simp []); exact one64 _; intro w3 K hr3; replace M := Mem.callPut (L1 := [_]) M (Or.inr (by assumption)) K hr3; clear K hr3; simp only [List.cons_append, List.nil_append] at M))
    exact ret_cell1 Salg.results139 rfl M.r1 Salg.underlying25 rfl size25 rfl ⟨rfl, M.kept⟩

set_option maxHeartbeats 2000000 in
set_option maxRecDepth 100000 in
theorem wShr (xs ys : List Nat) (w : World) (hx : xs.length = 4) (hy : ys.length = 4) (hLx : Limbs xs) (hLy : Limbs ys) :
    Calls Salg.prog 61 #[A64 xs, A64 ys] w fun e w' => e = .returned (A64 (nl 4 (shrN (lval xs) (lval ys)))) ∧ Kept [] w w' := by
  have M := Mem.start w []
  have HC := hid (fun w => wDown xs ys 0 w hx hy hLx hLy (Or.inl rfl))
  rw [show lval [0, 0, 0, 0] = 0 from rfl, Nat.mul_zero, Nat.add_zero] at HC
  change Hid (∀ w, Calls Salg.prog 139 #[A64 xs, A64 ys, .int .u64 0] w fun e w' => e = .returned (A64 (nl 4 (shrN (lval xs) (lval ys)))) ∧ Kept [] w w') at HC
  have hrl := nl_length 4 (shrN (lval xs) (lval ys))
  generalize nl 4 (shrN (lval xs) (lval ys)) = out at *
  clear hLx hLy
  go_enter Salg.func61, Salg.ntmps61
  go_wp2_with (first
    | ((with_reducible apply L_box (d := 2) M); rfl; clear M; intro c1 w1 hc1 M; simp only [Act.put, List.setIfInBounds_toArray, List.set_cons_zero, List.set_cons_succ])
    | ((with_reducible apply L_box (d := 3) M); rfl; clear M; intro c2 w1 hc2 M; simp only [Act.put, List.setIfInBounds_toArray, List.set_cons_zero, List.set_cons_succ])
    | ((with_reducible apply L_allocA (d := 4) M); exact zero25; clear M; intro c3 w1 hc3 M; simp only [Act.put, List.setIfInBounds_toArray, List.set_cons_zero, List.set_cons_succ])
    | ((with_reducible apply W_loadAll); rfl; (first | with_reducible exact M.r0 | with_reducible exact M.r1 | with_reducible exact M.r2 | with_reducible exact M.r3 | with_reducible exact M.r4 | with_reducible exact M.r5 | with_reducible exact M.r6 | assumption | exact M.kept.row (by assumption) (by simp)); exact Salg.underlying25; rfl; (first | with_reducible exact size25 | (rw [size25]; simp [hx, hy])); simp only [Act.put, List.setIfInBounds_toArray, List.set_cons_zero, List.set_cons_succ]))
  refine (HC.out _).mono ?_
  rintro e w2 ⟨rfl, K⟩
  replace M := M.call K
  clear K HC
  go_wp2_with ((with_reducible apply W_storeK (b := c3)); rfl; rfl; exact M.r0; exact size25; (first | rfl | simp [hrl]); exact one64 _; intro w3 K hr3; replace M := Mem.callPut (L1 := []) M (Or.inr (by assumption)) K hr3; clear K hr3; simp only [List.cons_append, List.nil_append] at M)
  exact ret_cell1 Salg.results61 rfl M.r0 Salg.underlying25 rfl (by rw [size25]; simp [hrl]) rfl ⟨rfl, M.kept⟩

set_option maxHeartbeats 2000000 in
set_option maxRecDepth 100000 in
theorem wSar (xs ys : List Nat) (w : World) (hx : xs.length = 4) (hy : ys.length = 4) (hLx : Limbs xs) (hLy : Limbs ys) :
    Calls Salg.prog 62 #[A64 xs, A64 ys] w fun e w' => e = .returned (A64 (nl 4 (sarN (lval xs) (lval ys)))) ∧ Kept [] w w' := by
  have M := Mem.start w []
  obtain ⟨f, hf⟩ : ∃ f, f = if neg (lval ys) then 18446744073709551615 else 0 := ⟨_, rfl⟩
  have hf' : f = 0 ∨ f = 18446744073709551615 := by rw [hf]; split <;> simp
  have HC := hid (fun w => wDown xs ys f w hx hy hLx hLy hf')
  have hyl := lval_lt hLy
  rw [hy] at hyl
  have hE : nl 4 ((lval ys + 18446744073709551616 ^ 4 * lval [f, f, f, f]) / 2 ^ (min (lval xs) 256)) = nl 4 (sarN (lval xs) (lval ys)) := by
    refine nl_of_mod (nl_limbs _ _) (nl_length _ _) ?_
    rw [nl_lval, sarN, hf]
    cases neg (lval ys)
    · simp [lval]
    · simp only [if_true]
      have e : lval [18446744073709551615, 18446744073709551615, 18446744073709551615, 18446744073709551615] = 18446744073709551616 ^ 4 - 1 := by decide
      rw [e, sar_all hyl (Nat.min_le_right _ _)]
      rw [Nat.mod_eq_of_lt]
      have : 0 < 18446744073709551616 ^ 4 := by decide
      generalize (18446744073709551616 ^ 4 - 1 - lval ys) / 2 ^ min (lval xs) 256 = V
      omega
  rw [hE] at HC
  obtain ⟨a, b, c, d, rfl⟩ := four hy
  have hd : d < 18446744073709551616 := hLy d (by simp)
  have hneg : neg (lval [a, b, c, d]) = decide (9223372036854775808 ≤ d) := by
    have hT := lval_lt (xs := [a, b, c]) (fun z hz => hLy z (by simp at hz ⊢; omega))
    have e : lval [a, b, c, d] = lval [a, b, c] + 6277101735386680763835789423207666416102355444464034512896 * d := by simp only [lval, Nat.mul_zero, Nat.add_zero]; omega
    rw [show [a, b, c].length = 3 from rfl] at hT
    rw [Bool.eq_iff_iff]
    unfold neg
    rw [show (2 : Nat) ^ 255 = 57896044618658097711785492504343953926634992332820282019728792003956564819968 from rfl, e]
    simp only [decide_eq_true_eq]
    generalize lval [a, b, c] = T at *
    clear hyl hE HC
    omega
  rw [hneg] at hf
  have hrl := nl_length 4 (sarN (lval xs) (lval [a, b, c, d]))
  generalize nl 4 (sarN (lval xs) (lval [a, b, c, d])) = out at *
  clear hLx hLy hneg hE hyl hf'
  have HF := hid hf
  clear hf
  go_enter Salg.func62, Salg.ntmps62
  go_wp2_with (first
    | ((with_reducible apply L_box (d := 2) M); rfl; clear M; intro c1 w1 hc1 M; simp only [Act.put, List.setIfInBounds_toArray, List.set_cons_zero, List.set_cons_succ])
    | ((with_reducible apply L_box (d := 3) M); rfl; clear M; intro c2 w1 hc2 M; simp only [Act.put, List.setIfInBounds_toArray, List.set_cons_zero, List.set_cons_succ])
    | ((with_reducible apply L_allocA (d := 4) M); exact zero25; clear M; intro c3 w1 hc3 M; simp only [Act.put, List.setIfInBounds_toArray, List.set_cons_zero, List.set_cons_succ])
    | ((with_reducible apply W_loadAll); rfl; (first | with_reducible exact M.r0 | with_reducible exact M.r1 | with_reducible exact M.r2 | with_reducible exact M.r3 | with_reducible exact M.r4 | with_reducible exact M.r5 | with_reducible exact M.r6 | assumption | exact M.kept.row (by assumption) (by simp)); exact Salg.underlying25; rfl; (first | with_reducible exact size25 | (rw [size25]; simp [hx, hy])); simp only [Act.put, List.setIfInBounds_toArray, List.set_cons_zero, List.set_cons_succ])
    | ((with_reducible apply W_loadCell); rfl; (first | with_reducible exact M.r0 | with_reducible exact M.r1 | with_reducible exact M.r2 | with_reducible exact M.r3 | with_reducible exact M.r4 | with_reducible exact M.r5 | with_reducible exact M.r6 | assumption | exact M.kept.row (by assumption) (by simp)); (first | exact get_map (by assumption) | exact get_map rfl | rfl); exact Salg.underlying23; rfl; simp only [Act.put, List.setIfInBounds_toArray, List.set_cons_zero, List.set_cons_succ]))
  have he : IntKind.u64.wrap (wrap64 (d : Int) / 9223372036854775808) = (f : Int) := by rw [HF.out]; exact fill_int d hd
  rw [he]
  refine (HC.out _).mono ?_
  rintro e w2 ⟨rfl, K⟩
  replace M := M.call K
  clear K HC
  go_wp2_with ((with_reducible apply W_storeK (b := c3)); rfl; rfl; exact M.r0; exact size25; (first | rfl | simp [hrl]); exact one64 _; intro w3 K hr3; replace M := Mem.callPut (L1 := []) M (Or.inr (by assumption)) K hr3; clear K hr3; simp only [List.cons_append, List.nil_append] at M)
  exact ret_cell1 Salg.results62 rfl M.r0 Salg.underlying25 rfl (by rw [size25]; simp [hrl]) rfl ⟨rfl, M.kept⟩
end Go.Proofs.YgcsalGreat

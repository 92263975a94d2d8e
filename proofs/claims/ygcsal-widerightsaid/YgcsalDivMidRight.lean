/-
  law.DivMidRight: the walks of wordNat, midByNat, divMidHolds, DivMidRight.
-/
import Derived.Test.YgcsalDivMid
set_option linter.unusedSimpArgs false
namespace Go.Own
theorem NumV.nat {w : World} {v : Value} {n : Nat} (h : NumV w v n) : ∃ ds, NatV w v ds ∧ val ds = n := by obtain ⟨ds, h1, _, h3⟩ := h; exact ⟨ds, h1, h3⟩
theorem LimbV.row {w : World} {b t : Nat} {cs : List Nat} (h : w.heap[b]? = some (R64 t cs)) (hL : Limbs cs) (o n c : Nat) (hle : o + n ≤ cs.length) (hn : n ≤ 1000) : LimbV w (.slice (some ⟨b, o, none⟩) n c) ((cs.drop o).take n) := by
  have hl : ((cs.drop o).take n).length = n := by simp; omega
  refine ⟨b, o, c, t, cs, by rw [hl], by omega, h, ?_, (hL.drop o).take n⟩
  intro i x hx
  have hi : i < n := by have := (List.getElem?_eq_some_iff.1 hx).1; omega
  rw [List.getElem?_take_of_lt hi, List.getElem?_drop] at hx
  exact hx
theorem limbs4_limbs (cs : List Nat) (h : Small cs) : Limbs (limbs4 cs) := by
  have hlt : ∀ o, be ((cs.drop o).take 8) < 18446744073709551616 := fun o =>
    Nat.lt_of_lt_of_le (be_lt _ (fun c hc => h c (List.mem_of_mem_drop (List.mem_of_mem_take hc)))) (by
      rw [List.length_take]; exact Nat.pow_le_pow_right (n := 256) (j := 8) (by decide) (by omega))
  intro x hx
  simp only [limbs4, List.mem_cons, List.not_mem_nil, or_false] at hx
  rcases hx with rfl | rfl | rfl | rfl <;> exact hlt _
end Go.Own
namespace Go.Proofs.Ygcsal
open Go.RowKit Go.Own
/-- Cmp, of numbers. -/
theorem cmp_num (v u : Value) (m n : Nat) (w : World) (hv : NumV w v m) (hu : NumV w u n) : Calls Salg.prog 24 #[v, u] w fun e w' => e = .returned (.int .i8 (cmpI m n)) ∧ Kept [] w w' := by
  obtain ⟨ds, h1, rfl⟩ := hv.nat
  obtain ⟨es, h2, rfl⟩ := hu.nat
  exact cmp_any v u ds es w h1 h2
theorem pow2_int (k : Int) (h0 : 0 ≤ k) (hk : k < 65536) (w : World) :
    Calls Salg.prog 31 #[.int .u16 k] w fun e w' => ∃ u, e = .returned u ∧ NumV w' u (2 ^ k.toNat) ∧ Kept [] w w' := by
  obtain ⟨n, rfl⟩ := Int.eq_ofNat_of_zero_le h0
  rw [Int.toNat_natCast]
  exact pow2_any n (by omega) w

set_option maxHeartbeats 1000000 in
set_option maxRecDepth 100000 in
theorem wordNat_any (vs : List Nat) (w : World) (hv : vs.length = 4) (hlv : Limbs vs) :
    Calls Salg.prog 50 #[A64 vs] w fun e w' => ∃ u, e = .returned u ∧ NumV w' u (lval vs) ∧ Kept [] w w' := by
  have M := Mem.start w []
  go_enter Salg.func50, Salg.ntmps50
  go_wp2_with ((with_reducible apply L_box M); rfl; clear M; intro b1 w1 hb1 M; simp only [Act.put, List.setIfInBounds_toArray, List.set_cons_zero, List.set_cons_succ])
  refine (limbsNat_any _ vs _ (by have := LimbV.row M.r0 hlv 0 4 4 (by omega) (by omega); rw [List.drop_zero, ← hv, List.take_length] at this; rw [hv] at this; exact this)).mono ?_
  rintro e w3 ⟨u, rfl, hu, K⟩
  have HU := hid hu
  replace M := M.call K
  clear hu K
  go_wp2_with fail
  go_ret
  exact ⟨_, rfl, HU.out, M.kept⟩

set_option maxHeartbeats 2000000 in
set_option maxRecDepth 100000 in
theorem midByNat_any (us vs : List Nat) (n j : Nat) (w : World) (hu : us.length = 9) (hv : vs.length = 4) (hlu : Limbs us) (hlv : Limbs vs) (hn : n < 256) (hj : j < 256) :
    Calls Salg.prog 38 #[A64 us, A64 vs, .int .u8 n, .int .u8 j] w fun e w' => e = .returned (.bool (midB us vs n j)) ∧ Kept [] w w' := by
  have M := Mem.start w []
  by_cases h2 : n < 2
  · have HF : Hid (midB us vs n j = false) := by simp [Hid, midB]; omega
    go_enter Salg.func38, Salg.ntmps38
    go_wp2_with (first
      | ((with_reducible apply L_box (d := 4) M); rfl; clear M; intro b1 w1 hb1 M; simp only [Act.put, List.setIfInBounds_toArray, List.set_cons_zero, List.set_cons_succ])
      | ((with_reducible apply L_box (d := 5) M); rfl; clear M; intro b2 w1 hb2 M; simp only [Act.put, List.setIfInBounds_toArray, List.set_cons_zero, List.set_cons_succ]))
    go_ret
    exact ⟨by rw [HF.out]; rfl, M.kept⟩
  by_cases h4 : 4 < n
  · have HF : Hid (midB us vs n j = false) := by simp [Hid, midB]; omega
    go_enter Salg.func38, Salg.ntmps38
    go_wp2_with (first
      | ((with_reducible apply L_box (d := 4) M); rfl; clear M; intro b1 w1 hb1 M; simp only [Act.put, List.setIfInBounds_toArray, List.set_cons_zero, List.set_cons_succ])
      | ((with_reducible apply L_box (d := 5) M); rfl; clear M; intro b2 w1 hb2 M; simp only [Act.put, List.setIfInBounds_toArray, List.set_cons_zero, List.set_cons_succ]))
    go_ret
    exact ⟨by rw [HF.out]; rfl, M.kept⟩
  have d1 : decide ((n : Int) < 2) = false := by simp; omega
  have d2 : decide ((4 : Int) < (n : Int)) = false := by simp; omega
  by_cases h8 : 8 < j + n
  · have HF : Hid (midB us vs n j = false) := by simp [Hid, midB]; omega
    go_enter Salg.func38, Salg.ntmps38
    go_wp2_with (first
      | ((with_reducible apply L_box (d := 4) M); rfl; clear M; intro b1 w1 hb1 M; simp only [Act.put, List.setIfInBounds_toArray, List.set_cons_zero, List.set_cons_succ])
      | ((with_reducible apply L_box (d := 5) M); rfl; clear M; intro b2 w1 hb2 M; simp only [Act.put, List.setIfInBounds_toArray, List.set_cons_zero, List.set_cons_succ]))
    go_ret
    exact ⟨by rw [HF.out]; rfl, M.kept⟩
  have d3 : decide ((8 : Int) < (j : Int) + (n : Int)) = false := by simp; omega
  have HM : Hid (midB us vs n j = (decide (lval vs < 2 ^ (64 * n)) && (decide (2 ^ (64 * n - 1) ≤ lval vs) && decide (lval (us.drop (j + 1)) < lval vs)))) := by
    show _ = _
    have e1 : 2 ≤ n := by omega
    have e2 : n ≤ 4 := by omega
    have e3 : j + n ≤ 8 := by omega
    simp [midB, e1, e2, e3, Bool.decide_and]
  go_enter Salg.func38, Salg.ntmps38
  go_wp2_with (first
      | ((with_reducible apply L_box (d := 4) M); rfl; clear M; intro b1 w1 hb1 M; simp only [Act.put, List.setIfInBounds_toArray, List.set_cons_zero, List.set_cons_succ])
      | ((with_reducible apply L_box (d := 5) M); rfl; clear M; intro b2 w1 hb2 M; simp only [Act.put, List.setIfInBounds_toArray, List.set_cons_zero, List.set_cons_succ])
      | ((with_reducible apply W_loadAll); rfl; (first | with_reducible exact M.r0 | with_reducible exact M.r1 | with_reducible exact M.r2 | with_reducible exact M.r3 | with_reducible exact M.r4 | with_reducible exact M.r5 | with_reducible exact M.r6 | assumption | exact M.kept.row (by assumption) (by simp)); exact Salg.underlying25; rfl; (first | with_reducible exact size25 | (rw [size25]; simp [hv])); simp only [Act.put, List.setIfInBounds_toArray, List.set_cons_zero, List.set_cons_succ]))
  refine (wordNat_any vs _ hv hlv).mono ?_
  rintro e w3 ⟨D, rfl, hD, K⟩
  have HD := hid hD
  replace M := M.call K
  clear hD K
  go_wp2_with fail
  refine (pow2_int _ (by omega) (by omega) _).mono ?_
  rintro e w4 ⟨P, rfl, hP, K⟩
  have HD2 := hid (HD.out.kept K)
  have HP : Hid (NumV w4 P (2 ^ (64 * n))) := by have : ((64 : Int) * (n : Int)).toNat = 64 * n := by omega
                                                 rw [this] at hP; exact hP
  replace M := M.call K
  clear hP K HD
  go_wp2_with fail
  refine (cmp_num _ _ _ _ _ HD2.out HP.out).mono ?_
  rintro e w5 ⟨rfl, K⟩
  have HD3 := hid (HD2.out.kept K)
  replace M := M.call K
  clear K HD2 HP
  have HC := hid (cmpI_neg (lval vs) (2 ^ (64 * n)))
  by_cases g1 : lval vs < 2 ^ (64 * n)
  · have hc : cmpI (lval vs) (2 ^ (64 * n)) < 0 := HC.out.2 g1
    have HM1 : Hid (midB us vs n j = (decide (2 ^ (64 * n - 1) ≤ lval vs) && decide (lval (us.drop (j + 1)) < lval vs))) := by show _ = _; rw [HM.out]; simp [g1]
    clear HM HC g1
    generalize cmpI (lval vs) (2 ^ (64 * n)) = c at *
    have hcd : decide ((0 : Int) ≤ c) = false := by simp; omega
    go_wp2_with fail
    refine (pow2_int _ (by omega) (by omega) _).mono ?_
    rintro e w6 ⟨P2, rfl, hP, K⟩
    have HD4 := hid (HD3.out.kept K)
    have HP : Hid (NumV w6 P2 (2 ^ (64 * n - 1))) := by have : ((64 : Int) * (n : Int) - 1).toNat = 64 * n - 1 := by omega
                                                        rw [this] at hP; exact hP
    replace M := M.call K
    clear hP K HD3
    go_wp2_with fail
    refine (cmp_num _ _ _ _ _ HD4.out HP.out).mono ?_
    rintro e w7 ⟨rfl, K⟩
    have HD5 := hid (HD4.out.kept K)
    replace M := M.call K
    clear K HD4 HP
    have HC := hid (cmpI_neg (lval vs) (2 ^ (64 * n - 1)))
    by_cases g2 : 2 ^ (64 * n - 1) ≤ lval vs
    · have hc2 : ¬ cmpI (lval vs) (2 ^ (64 * n - 1)) < 0 := fun h => by have := HC.out.1 h; omega
      have HM2 : Hid (midB us vs n j = decide (lval (us.drop (j + 1)) < lval vs)) := by show _ = _; rw [HM1.out]; simp [g2]
      clear HM1 HC g2
      generalize cmpI (lval vs) (2 ^ (64 * n - 1)) = c2 at *
      have hcd2 : decide (c2 < (0 : Int)) = false := by simp; omega
      go_wp2_with ((with_reducible apply W_sliceArr (l := j + 1) (h := 9) (m := 9)); rfl; exact Salg.underlying31; exact size23; (first | exact Or.inl ⟨rfl, rfl⟩ | exact Or.inr ⟨_, _, _, rfl, rfl, by omega⟩); (first | exact Or.inl ⟨rfl, rfl⟩ | exact Or.inr ⟨_, _, _, rfl, rfl, by omega⟩); (first | exact Or.inl ⟨rfl, rfl⟩ | exact Or.inr ⟨_, _, _, rfl, rfl, by omega⟩); (first | exact Or.inl rfl | exact Or.inr rfl); omega; omega; omega; omega; (try simp only [Nat.zero_add, Nat.sub_zero]); simp only [Act.put, List.setIfInBounds_toArray, List.set_cons_zero, List.set_cons_succ])
      refine (limbsNat_any _ (us.drop (j + 1)) _ (by
        have := LimbV.row M.r1 hlu (j + 1) (8 - j) (8 - j) (by omega) (by omega)
        rw [List.take_of_length_le (by simp; omega)] at this
        exact this)).mono ?_
      rintro e w8 ⟨A, rfl, hA, K⟩
      have HA := hid hA
      have HD6 := hid (HD5.out.kept K)
      replace M := M.call K
      clear hA K HD5
      go_wp2_with fail
      refine (cmp_num _ _ _ _ _ HA.out HD6.out).mono ?_
      rintro e w9 ⟨rfl, K⟩
      replace M := M.call K
      have HC := hid (cmpI_neg (lval (us.drop (j + 1))) (lval vs))
      clear K HA HD6
      generalize cmpI (lval (us.drop (j + 1))) (lval vs) = c3 at *
      go_wp2_with fail
      go_ret
      exact ⟨by rw [HM2.out, decide_eq_decide.2 HC.out.symm]; rfl, M.kept⟩
    · have hc2 : cmpI (lval vs) (2 ^ (64 * n - 1)) < 0 := HC.out.2 (by omega)
      have HF : Hid (midB us vs n j = false) := by show _ = _; rw [HM1.out]; simp [g2]
      clear HM1 HC g2
      generalize cmpI (lval vs) (2 ^ (64 * n - 1)) = c2 at *
      have hcd2 : decide (c2 < (0 : Int)) = true := by simp; omega
      go_wp2_with fail
      go_ret
      exact ⟨by rw [HF.out]; rfl, M.kept⟩
  · have hc : ¬ cmpI (lval vs) (2 ^ (64 * n)) < 0 := fun h => g1 (HC.out.1 h)
    have HF : Hid (midB us vs n j = false) := by show _ = _; rw [HM.out]; simp [g1]
    clear HM HC g1
    generalize cmpI (lval vs) (2 ^ (64 * n)) = c at *
    have hcd : decide ((0 : Int) ≤ c) = true := by simp; omega
    go_wp2_with fail
    go_ret
    exact ⟨by rw [HF.out]; rfl, M.kept⟩

set_option maxHeartbeats 1000000 in
set_option maxRecDepth 100000 in
theorem divMidHolds_any (us vs : List Nat) (n j : Nat) (w : World) (hu : us.length = 9) (hv : vs.length = 4) (hlu : Limbs us) (hlv : Limbs vs) (hn : n < 256) (hj : j < 256) :
    Calls Salg.prog 14 #[A64 us, A64 vs, .int .u8 n, .int .u8 j, .bool (midB us vs n j)] w fun e w' => e = .returned (.bool true) ∧ Kept [] w w' := by
  have M := Mem.start w []
  have HC := hid (fun w => midByNat_any us vs n j w hu hv hlu hlv hn hj)
  generalize midB us vs n j = m at *
  have hm : (m == m) = true := by simp
  go_enter Salg.func14, Salg.ntmps14
  go_wp2_with (first
      | ((with_reducible apply L_box (d := 5) M); rfl; clear M; intro b1 w1 hb1 M; simp only [Act.put, List.setIfInBounds_toArray, List.set_cons_zero, List.set_cons_succ])
      | ((with_reducible apply L_box (d := 6) M); rfl; clear M; intro b2 w1 hb2 M; simp only [Act.put, List.setIfInBounds_toArray, List.set_cons_zero, List.set_cons_succ])
      | ((with_reducible apply W_loadAll); rfl; (first | with_reducible exact M.r0 | with_reducible exact M.r1 | with_reducible exact M.r2 | with_reducible exact M.r3 | with_reducible exact M.r4 | with_reducible exact M.r5 | with_reducible exact M.r6 | assumption | exact M.kept.row (by assumption) (by simp)); exact Salg.underlying31; rfl; (first | with_reducible exact size31 | (rw [size31]; simp [hu])); simp only [Act.put, List.setIfInBounds_toArray, List.set_cons_zero, List.set_cons_succ])
      | ((with_reducible apply W_loadAll); rfl; (first | with_reducible exact M.r0 | with_reducible exact M.r1 | with_reducible exact M.r2 | with_reducible exact M.r3 | with_reducible exact M.r4 | with_reducible exact M.r5 | with_reducible exact M.r6 | assumption | exact M.kept.row (by assumption) (by simp)); exact Salg.underlying25; rfl; (first | with_reducible exact size25 | (rw [size25]; simp [hv])); simp only [Act.put, List.setIfInBounds_toArray, List.set_cons_zero, List.set_cons_succ])
      | (go_at_call 38; refine (HC.out _).mono ?_; rintro e w3 ⟨rfl, K⟩; replace M := M.call K; clear K))
  go_ret
  exact ⟨by simp, M.kept⟩

set_option maxHeartbeats 2000000 in
set_option maxRecDepth 100000 in
theorem divMidRight_any (bs cs : List Nat) (n j : Nat) (w : World) (hb : bs.length = 72) (hc : cs.length = 32) (hsb : Small bs) (hsc : Small cs) (hn : n < 256) (hj : j < 256) :
    Calls Salg.prog 4 #[A8 bs, A8 cs, .int .u8 n, .int .u8 j] w fun e w' => e = .returned (.bool true) ∧ Kept [] w w' := by
  have M := Mem.start w []
  have hu := lo9_length bs 72
  have hlu := lo9_limbs bs hsb 72
  have hv : (limbs4 cs).length = 4 := rfl
  have hlv := limbs4_limbs cs hsc
  have HLO := hid (fun w => limbsOf_any bs w hb hsb)
  have HFB := hid (fun w => fromBytes_any cs w hc hsc)
  generalize lo9 bs 72 = us at *
  generalize limbs4 cs = vs at *
  go_enter Salg.func4, Salg.ntmps4
  go_wp2_with (first
      | ((with_reducible apply L_box (d := 4) M); rfl; clear M; intro b1 w1 hb1 M; simp only [Act.put, List.setIfInBounds_toArray, List.set_cons_zero, List.set_cons_succ])
      | ((with_reducible apply L_box (d := 5) M); rfl; clear M; intro b2 w1 hb2 M; simp only [Act.put, List.setIfInBounds_toArray, List.set_cons_zero, List.set_cons_succ])
      | ((with_reducible apply W_loadAll); rfl; (first | with_reducible exact M.r0 | with_reducible exact M.r1 | with_reducible exact M.r2 | with_reducible exact M.r3 | with_reducible exact M.r4 | with_reducible exact M.r5 | with_reducible exact M.r6 | assumption | exact M.kept.row (by assumption) (by simp)); exact Salg.underlying30; rfl; (first | with_reducible exact size30 | (rw [size30]; simp [hb])); simp only [Act.put, List.setIfInBounds_toArray, List.set_cons_zero, List.set_cons_succ])
      | ((with_reducible apply W_loadAll); rfl; (first | with_reducible exact M.r0 | with_reducible exact M.r1 | with_reducible exact M.r2 | with_reducible exact M.r3 | with_reducible exact M.r4 | with_reducible exact M.r5 | with_reducible exact M.r6 | assumption | exact M.kept.row (by assumption) (by simp)); exact Salg.underlying22; rfl; (first | with_reducible exact size22 | (rw [size22]; simp [hc])); simp only [Act.put, List.setIfInBounds_toArray, List.set_cons_zero, List.set_cons_succ])
      | ((with_reducible apply L_allocA M); exact zero31; clear M; intro b3 w1 hb3 M; simp only [Act.put, List.setIfInBounds_toArray, List.set_cons_zero, List.set_cons_succ])
      | ((with_reducible apply L_allocA M); exact zero25; clear M; intro b4 w1 hb4 M; simp only [Act.put, List.setIfInBounds_toArray, List.set_cons_zero, List.set_cons_succ])
      | (go_at_call 13; refine (HLO.out _).mono ?_; rintro e w3 ⟨rfl, K⟩; replace M := M.call K; clear K)
      | (go_at_call 10; refine (HFB.out _).mono ?_; rintro e w3 ⟨rfl, K⟩; replace M := M.call K; clear K)
      | ((with_reducible apply W_storeAll0); rfl; rfl; exact M; exact Or.inr (by assumption); (first | exact size31 | exact size25); (simp [hu, hv]); exact one64 _; clear M; intro w2 M))
  refine S_region (by kernel_rfl) ?_
  refine S_quiet 0 23 (by kernel_rfl) (by decide) M.drew ?_
  clear M
  simp only [List.take_succ_cons, List.take_zero, List.drop_zero, List.drop_succ_cons, Nat.sub_zero, Nat.reduceSub]
  ((with_reducible apply Q_run); rfl; (intro w M; exact run_loadAll (by (first | with_reducible exact M.r0 | with_reducible exact M.r1 | with_reducible exact M.r2 | with_reducible exact M.r3 | with_reducible exact M.r4 | with_reducible exact M.r5 | with_reducible exact M.r6 | assumption | exact M.kept.row (by assumption) (by simp))) rfl Salg.underlying30 rfl (by first | with_reducible exact size30 | (rw [size30]; simp [hb]))); simp only [Act.put, List.setIfInBounds_toArray, List.set_cons_zero, List.set_cons_succ])
  refine Q_call rfl Salg.func13 (by kernel_rfl) (by kernel_rfl) (args := [A8 bs]) rfl (fun w M => HLO.out w) ?_
  simp only [Act.put, List.setIfInBounds_toArray, List.set_cons_zero, List.set_cons_succ]
  ((with_reducible apply Q_run); rfl; (intro w M; exact run_loadAll (by (first | with_reducible exact M.r0 | with_reducible exact M.r1 | with_reducible exact M.r2 | with_reducible exact M.r3 | with_reducible exact M.r4 | with_reducible exact M.r5 | with_reducible exact M.r6 | assumption | exact M.kept.row (by assumption) (by simp))) rfl Salg.underlying22 rfl (by first | with_reducible exact size22 | (rw [size22]; simp [hc]))); simp only [Act.put, List.setIfInBounds_toArray, List.set_cons_zero, List.set_cons_succ])
  refine Q_call rfl Salg.func10 (by kernel_rfl) (by kernel_rfl) (args := [A8 cs]) rfl (fun w M => HFB.out w) ?_
  simp only [Act.put, List.setIfInBounds_toArray, List.set_cons_zero, List.set_cons_succ]
  ((with_reducible apply Q_run); rfl; (intro w M; go_simp; (try go_ints); (try simp only [↓IntWalk.iteOmega]); (try with_reducible rfl)); simp only [Act.put, List.setIfInBounds_toArray, List.set_cons_zero, List.set_cons_succ])
  ((with_reducible apply Q_run); rfl; (intro w M; go_simp; (try go_ints); (try simp only [↓IntWalk.iteOmega]); (try with_reducible rfl)); simp only [Act.put, List.setIfInBounds_toArray, List.set_cons_zero, List.set_cons_succ])
  ((with_reducible apply Q_run); rfl; (intro w M; go_simp; (try go_ints); (try simp only [↓IntWalk.iteOmega]); (try with_reducible rfl)); simp only [Act.put, List.setIfInBounds_toArray, List.set_cons_zero, List.set_cons_succ])
  ((with_reducible apply Q_run); rfl; (intro w M; go_simp; (try go_ints); (try simp only [↓IntWalk.iteOmega]); (try with_reducible rfl)); simp only [Act.put, List.setIfInBounds_toArray, List.set_cons_zero, List.set_cons_succ])
  refine Q_call rfl Salg.func15 (by kernel_rfl) (by kernel_rfl) (args := [.pointer (some ⟨b3, 0, none⟩), .pointer (some ⟨b4, 0, none⟩), .int .u8 n, .int .u8 j]) rfl
    (fun w M => divMid_any b3 b4 31 25 us vs n j w M.r1 M.r0 hu hv hlu hlv hn) ?_
  simp only [Act.put, List.setIfInBounds_toArray, List.set_cons_zero, List.set_cons_succ]
  refine Q_call rfl Salg.func14 (by kernel_rfl) (by kernel_rfl) (args := [A64 us, A64 vs, .int .u8 n, .int .u8 j, .bool (midB us vs n j)]) rfl
    (fun w M => divMidHolds_any us vs n j w hu hv hlu hlv hn hj) ?_
  simp only [Act.put, List.setIfInBounds_toArray, List.set_cons_zero, List.set_cons_succ]
  generalize midB us vs n j = mid at *
  ((with_reducible apply Q_run); rfl; (intro w M; go_simp; (try go_ints); (try simp only [↓IntWalk.iteOmega]); (try with_reducible rfl)); simp only [Act.put, List.setIfInBounds_toArray, List.set_cons_zero, List.set_cons_succ])
  ((with_reducible apply Q_run); rfl; (intro w M; exact run_loadAll (by (first | with_reducible exact M.r0 | with_reducible exact M.r1 | with_reducible exact M.r2 | with_reducible exact M.r3 | with_reducible exact M.r4 | with_reducible exact M.r5 | with_reducible exact M.r6 | assumption | exact M.kept.row (by assumption) (by simp))) rfl Salg.underlying31 rfl (by first | with_reducible exact size31 | (rw [size31]; simp [hu]))); simp only [Act.put, List.setIfInBounds_toArray, List.set_cons_zero, List.set_cons_succ])
  ((with_reducible apply Q_run); rfl; (intro w M; exact run_loadAll (by (first | with_reducible exact M.r0 | with_reducible exact M.r1 | with_reducible exact M.r2 | with_reducible exact M.r3 | with_reducible exact M.r4 | with_reducible exact M.r5 | with_reducible exact M.r6 | assumption | exact M.kept.row (by assumption) (by simp))) rfl Salg.underlying30 rfl (by first | with_reducible exact size30 | (rw [size30]; simp [hb]))); simp only [Act.put, List.setIfInBounds_toArray, List.set_cons_zero, List.set_cons_succ])
  refine Q_call rfl Salg.func13 (by kernel_rfl) (by kernel_rfl) (args := [A8 bs]) rfl (fun w M => HLO.out w) ?_
  simp only [Act.put, List.setIfInBounds_toArray, List.set_cons_zero, List.set_cons_succ]
  ((with_reducible apply Q_run); rfl; (intro w M; exact run_eql64 rfl rfl Salg.underlying31 Salg.underlying23 size23 guard31 hu hu); simp only [decide_true]; simp only [Act.put, List.setIfInBounds_toArray, List.set_cons_zero, List.set_cons_succ])
  ((with_reducible apply Q_run); rfl; (intro w M; go_simp; (try go_ints); (try simp only [↓IntWalk.iteOmega]); (try with_reducible rfl)); simp only [Act.put, List.setIfInBounds_toArray, List.set_cons_zero, List.set_cons_succ])
  ((with_reducible apply Q_run); rfl; (intro w M; go_simp; (try go_ints); (try simp only [↓IntWalk.iteOmega]); (try with_reducible rfl)); simp only [Act.put, List.setIfInBounds_toArray, List.set_cons_zero, List.set_cons_succ])
  ((with_reducible apply Q_run); rfl; (intro w M; exact run_loadAll (by (first | with_reducible exact M.r0 | with_reducible exact M.r1 | with_reducible exact M.r2 | with_reducible exact M.r3 | with_reducible exact M.r4 | with_reducible exact M.r5 | with_reducible exact M.r6 | assumption | exact M.kept.row (by assumption) (by simp))) rfl Salg.underlying25 rfl (by first | with_reducible exact size25 | (rw [size25]; simp [hv]))); simp only [Act.put, List.setIfInBounds_toArray, List.set_cons_zero, List.set_cons_succ])
  ((with_reducible apply Q_run); rfl; (intro w M; exact run_loadAll (by (first | with_reducible exact M.r0 | with_reducible exact M.r1 | with_reducible exact M.r2 | with_reducible exact M.r3 | with_reducible exact M.r4 | with_reducible exact M.r5 | with_reducible exact M.r6 | assumption | exact M.kept.row (by assumption) (by simp))) rfl Salg.underlying22 rfl (by first | with_reducible exact size22 | (rw [size22]; simp [hc]))); simp only [Act.put, List.setIfInBounds_toArray, List.set_cons_zero, List.set_cons_succ])
  refine Q_call rfl Salg.func10 (by kernel_rfl) (by kernel_rfl) (args := [A8 cs]) rfl (fun w M => HFB.out w) ?_
  simp only [Act.put, List.setIfInBounds_toArray, List.set_cons_zero, List.set_cons_succ]
  ((with_reducible apply Q_run); rfl; (intro w M; exact run_eql64 rfl rfl Salg.underlying25 Salg.underlying23 size23 guard25 hv hv); simp only [decide_true]; simp only [Act.put, List.setIfInBounds_toArray, List.set_cons_zero, List.set_cons_succ])
  ((with_reducible apply Q_run); rfl; (intro w M; go_simp; (try go_ints); (try simp only [↓IntWalk.iteOmega]); (try with_reducible rfl)); simp only [Act.put, List.setIfInBounds_toArray, List.set_cons_zero, List.set_cons_succ])
  ((with_reducible apply Q_run); rfl; (intro w M; go_simp; (try go_ints); (try simp only [↓IntWalk.iteOmega]); (try with_reducible rfl)); simp only [Act.put, List.setIfInBounds_toArray, List.set_cons_zero, List.set_cons_succ])
  refine Q_nil ?_
  intro w4 M
  refine S_done ?_
  go_wp2_with fail
  go_ret
  exact ⟨rfl, M.kept⟩
end Go.Proofs.Ygcsal

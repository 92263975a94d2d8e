/-
  The walks of yp's small functions on naturals: num, less, minNat, divided, words, isZero, end, small, place, creates, op.Imm.
-/
import Derived.Test.YgcsalGreatYp6
set_option linter.unusedSimpArgs false
set_option linter.unusedVariables false
namespace Go.Proofs.YgcsalGreat
open Go.RowKit Go.Own

set_option maxHeartbeats 2000000 in
set_option maxRecDepth 100000 in
theorem num_any (x : Nat) (hx : x < 18446744073709551616) (w : World) : Calls Salg.prog 87 #[.int .u64 x] w fun e w' => ∃ r, e = .returned r ∧ NumV w' r (x) ∧ Kept [] w w' := by
  have M := Mem.start w []
  go_enter Salg.func87, Salg.ntmps87
  go_wp2_with fail
  refine (fromU64_any x hx _).mono ?_
  rintro e w2 ⟨R, rfl, xHR, K⟩
  have HR := hid xHR
  replace M := M.call K
  clear K xHR
  go_wp2_with fail
  go_ret
  exact ⟨_, rfl, HR.out, M.kept⟩
theorem num_int (x : Int) (n : Nat) (h : x = n) (hx : n < 18446744073709551616) (w : World) : Calls Salg.prog 87 #[.int .u64 x] w fun e w' => ∃ r, e = .returned r ∧ NumV w' r n ∧ Kept [] w w' := by
  subst h
  exact num_any n hx w

set_option maxHeartbeats 2000000 in
set_option maxRecDepth 100000 in
theorem less_any (v u : Value) (m n : Nat) (w : World) (hv : NumV w v m) (hu : NumV w u n) (hm : m < 256 ^ 200) (hle : n ≤ m) : Calls Salg.prog 88 #[v, u] w fun e w' => ∃ r, e = .returned r ∧ NumV w' r (m - n) ∧ Kept [] w w' := by
  have M := Mem.start w []
  have HC := hid (sub_num v u m n w hv hu hm hle)
  clear hv hu
  go_enter Salg.func88, Salg.ntmps88
  go_wp2_with fail
  refine (HC.out).mono ?_
  rintro e w2 ⟨R, rfl, xHR, K⟩
  have HR := hid xHR
  replace M := M.call K
  clear K xHR
  go_wp2_with fail
  go_ret
  exact ⟨_, rfl, HR.out, M.kept⟩

set_option maxHeartbeats 2000000 in
set_option maxRecDepth 100000 in
theorem minNat_any (v u : Value) (m n : Nat) (w : World) (hv : NumV w v m) (hu : NumV w u n) : Calls Salg.prog 121 #[v, u] w fun e w' => ∃ r, e = .returned r ∧ NumV w' r (min m n) ∧ Kept [] w w' := by
  have M := Mem.start w []
  have HC := hid (cmp_num v u m n w hv hu)
  have HV := hid hv
  have HU := hid hu
  have HCP := hid (cmpI_neg m n)
  clear hv hu
  generalize cmpI m n = cc at *
  by_cases hlt : m < n
  · have d : decide (cc < 0) = true := decide_eq_true (HCP.out.2 hlt)
    rw [Nat.min_eq_left (Nat.le_of_lt hlt)]
    clear HCP
    go_enter Salg.func121, Salg.ntmps121
    go_wp2_with fail
    refine HC.out.mono ?_
    rintro e w2 ⟨rfl, K⟩
    go_wp2_with fail
    go_ret
    exact ⟨_, rfl, HV.out.kept K, K⟩
  · have d : decide (cc < 0) = false := decide_eq_false (fun h => hlt (HCP.out.1 h))
    rw [Nat.min_eq_right (by omega)]
    clear HCP
    go_enter Salg.func121, Salg.ntmps121
    go_wp2_with fail
    refine HC.out.mono ?_
    rintro e w2 ⟨rfl, K⟩
    go_wp2_with fail
    go_ret
    exact ⟨_, rfl, HU.out.kept K, K⟩

set_option maxHeartbeats 2000000 in
set_option maxRecDepth 100000 in
theorem divided_any (v : Value) (m b : Nat) (w : World) (hv : NumV w v m) (hm : m < 256 ^ 200) (hb : b < 18446744073709551616) (h0 : b ≠ 0) : Calls Salg.prog 122 #[v, .int .u64 b] w fun e w' => ∃ r, e = .returned r ∧ NumV w' r (m / b) ∧ Kept [] w w' := by
  have M := Mem.start w []
  have HV := hid hv
  clear hv
  go_enter Salg.func122, Salg.ntmps122
  go_wp2_with fail
  refine (num_any b hb _).mono ?_
  rintro e w2 ⟨B, rfl, xHB, K⟩
  have HB := hid xHB
  replace HV := hid (HV.out.kept K)
  replace M := M.call K
  clear K xHB
  go_wp2_with fail
  refine (divMod_num _ _ _ _ _ HV.out HB.out hm (Nat.lt_trans hb (by decide)) h0).mono ?_
  rintro e w3 ⟨Q, R, rfl, xHQ, xHR, K⟩
  have HQ := hid xHQ
  have HR := hid xHR
  replace M := M.call K
  clear K xHQ xHR
  clear HR
  go_wp2_with fail
  go_ret
  exact ⟨_, rfl, HQ.out, M.kept⟩
theorem divided_int (v : Value) (m : Nat) (x : Int) (b : Nat) (hx : x = b) (w : World) (hv : NumV w v m) (hm : m < 256 ^ 200) (hb : b < 18446744073709551616) (h0 : b ≠ 0) : Calls Salg.prog 122 #[v, .int .u64 x] w fun e w' => ∃ r, e = .returned r ∧ NumV w' r (m / b) ∧ Kept [] w w' := by
  subst hx
  exact divided_any v m b w hv hm hb h0

set_option maxHeartbeats 2000000 in
set_option maxRecDepth 100000 in
theorem words_any (v : Value) (m : Nat) (w : World) (hv : NumV w v m) (hm : m < 256 ^ 100) : Calls Salg.prog 165 #[v] w fun e w' => ∃ r, e = .returned r ∧ NumV w' r ((m + 31) / 32) ∧ Kept [] w w' := by
  have M := Mem.start w []
  have HV := hid hv
  clear hv
  have hm2 : m < 256 ^ 200 := Nat.lt_trans hm (by decide)
  have hm3 : m + 31 < 256 ^ 200 := Nat.lt_of_lt_of_le (Nat.add_lt_add_right hm 31) (by decide)
  have HM2 := hid hm2
  have HM3 := hid hm3
  clear hm hm2 hm3
  go_enter Salg.func165, Salg.ntmps165
  go_wp2_with fail
  refine (num_int 31 31 rfl (by decide) _).mono ?_
  rintro e w2 ⟨B, rfl, xHB, K⟩
  have HB := hid xHB
  replace HV := hid (HV.out.kept K)
  replace M := M.call K
  clear K xHB
  go_wp2_with fail
  refine (add_num _ _ _ _ _ HV.out HB.out HM2.out (by decide)).mono ?_
  rintro e w3 ⟨S, rfl, xHS, K⟩
  have HS := hid xHS
  replace M := M.call K
  clear K xHS
  go_wp2_with fail
  refine (divided_int _ _ 32 32 rfl _ HS.out HM3.out (by decide) (by decide)).mono ?_
  rintro e w4 ⟨R, rfl, xHR, K⟩
  have HR := hid xHR
  replace M := M.call K
  clear K xHR
  go_wp2_with fail
  go_ret
  exact ⟨_, rfl, HR.out, M.kept⟩

set_option maxHeartbeats 2000000 in
set_option maxRecDepth 100000 in
theorem isZero_any (v : Value) (m : Nat) (w : World) (hv : NumV w v m) : Calls Salg.prog 170 #[v] w fun e w' => e = .returned (.bool (decide (m = 0))) ∧ Kept [] w w' := by
  have M := Mem.start w []
  have HC := hid (cmp_num v (.slice none 0 0) m 0 w hv (nil_num _))
  have HCP : Hid ((cmpI m 0 == 0) = decide (m = 0)) := by
    show _ = _
    rw [Bool.eq_iff_iff]
    simp only [beq_iff_eq, cmpI_zero, decide_eq_true_eq]
  rw [← HCP.out]
  clear HCP
  generalize cmpI m 0 = cc at *
  go_enter Salg.func170, Salg.ntmps170
  go_wp2_with fail
  refine HC.out.mono ?_
  rintro e w2 ⟨rfl, K⟩
  go_wp2_with fail
  go_ret
  exact ⟨rfl, K⟩

set_option maxHeartbeats 2000000 in
set_option maxRecDepth 100000 in
theorem small_any (v : Value) (m : Nat) (w : World) (hv : NumV w v m) (hm : m < 18446744073709551616) : Calls Salg.prog 101 #[v] w fun e w' => e = .returned (n64 m) ∧ w' = w := by
  have M := Mem.start w []
  have HC := hid (u64_num v m w hv hm)
  clear hv hm
  go_enter Salg.func101, Salg.ntmps101
  go_wp2_with fail
  refine HC.out.mono ?_
  rintro e w2 ⟨rfl, rfl⟩
  go_wp2_with fail
  go_ret
  exact ⟨rfl, rfl⟩

set_option maxHeartbeats 2000000 in
set_option maxRecDepth 100000 in
theorem place_in (v : Value) (m n : Nat) (w : World) (hv : NumV w v m) (hn : n ≤ 1000000) (hm : m < n) : Calls Salg.prog 180 #[v, .int .i64 n] w fun e w' => e = .returned (.tuple #[.int .i64 m, .bool true]) ∧ w' = w := by
  have M := Mem.start w []
  have HC := hid (u64_num v m w hv (by omega))
  clear hv
  have d : decide ((n : Int) ≤ (m : Int)) = false := by simp; omega
  have d2 : decide (n ≤ m) = false := by simp; omega
  go_enter Salg.func180, Salg.ntmps180
  go_wp2_with fail
  refine HC.out.mono ?_
  rintro e w2 ⟨rfl, rfl⟩
  go_wp2_with fail
  go_ret2
  exact ⟨rfl, rfl⟩

set_option maxHeartbeats 2000000 in
set_option maxRecDepth 100000 in
theorem place_out (v : Value) (m n : Nat) (w : World) (hv : NumV w v m) (hn : n ≤ 1000000) (hm : n ≤ m) (hs : m < 18446744073709551616) : Calls Salg.prog 180 #[v, .int .i64 n] w fun e w' => e = .returned (.tuple #[.int .i64 0, .bool false]) ∧ w' = w := by
  have M := Mem.start w []
  have HC := hid (u64_num v m w hv hs)
  clear hv
  have d : decide ((n : Int) ≤ (m : Int)) = true := by simp; omega
  have d2 : decide (n ≤ m) = true := by simp; omega
  go_enter Salg.func180, Salg.ntmps180
  go_wp2_with fail
  refine HC.out.mono ?_
  rintro e w2 ⟨rfl, rfl⟩
  go_wp2_with fail
  go_ret2
  exact ⟨rfl, rfl⟩

set_option maxHeartbeats 2000000 in
set_option maxRecDepth 100000 in
theorem creates_zero (w : World) : Calls Salg.prog 172 #[.int .u8 0] w fun e w' => e = .returned (.bool false) ∧ w' = w := by
  have M := Mem.start w []
  go_enter Salg.func172, Salg.ntmps172
  go_wp2_with fail
  go_ret
  exact ⟨rfl, rfl⟩

set_option maxHeartbeats 2000000 in
set_option maxRecDepth 100000 in
theorem imm_push (o : Nat) (w : World) (h1 : 96 ≤ o) (h2 : o ≤ 127) : Calls Salg.prog 195 #[.int .u8 o] w fun e w' => e = .returned (.int .u8 ((o - 95 : Nat) : Int)) ∧ w' = w := by
  have M := Mem.start w []
  have d1 : decide ((95 : Int) < (o : Int)) = true := by simp; omega
  have d2 : decide ((o : Int) ≤ 127) = true := by simp; omega
  go_enter Salg.func195, Salg.ntmps195
  go_wp2_with fail
  go_ret
  exact ⟨by go_num, rfl⟩

set_option maxHeartbeats 2000000 in
set_option maxRecDepth 100000 in
theorem imm_other (o : Nat) (w : World) (h : o ≤ 95 ∨ 128 ≤ o) : Calls Salg.prog 195 #[.int .u8 o] w fun e w' => e = .returned (.int .u8 0) ∧ w' = w := by
  have M := Mem.start w []
  rcases h with h | h
  · have d1 : decide ((95 : Int) < (o : Int)) = false := by simp; omega
    go_enter Salg.func195, Salg.ntmps195
    go_wp2_with fail
    go_ret
    exact ⟨rfl, rfl⟩
  · have d1 : decide ((95 : Int) < (o : Int)) = true := by simp; omega
    have d2 : decide ((o : Int) ≤ 127) = false := by simp; omega
    go_enter Salg.func195, Salg.ntmps195
    go_wp2_with fail
    go_ret
    exact ⟨rfl, rfl⟩
end Go.Proofs.YgcsalGreat

/-
  The walks of u256: mulAdd, trial, takeTimes, putBack.
-/
import Derived.Test.YgcsalGreatDiv64
import Derived.Test.YgcsalGreatNat2
import Derived.Test.YgcsalGreatPlainG
import Derived.Deep.CutBlock
set_option linter.unusedSimpArgs false
namespace Go.Proofs.YgcsalGreat
open Go.RowKit Go.Own

set_option maxHeartbeats 1000000 in
set_option maxRecDepth 100000 in
theorem mulAdd_any (x y s c : Nat) (hx : x < 18446744073709551616) (hy : y < 18446744073709551616) (hs : s < 18446744073709551616) (hc : c < 18446744073709551616) (w : World) :
    Calls Salg.prog 263 #[.int .u64 x, .int .u64 y, .int .u64 s, .int .u64 c] w fun e w' => e = .returned (.tuple #[n64 ((x * y + s + c) % 18446744073709551616), n64 ((x * y + s + c) / 18446744073709551616)]) ∧ w' = w := by
  have hp : x * y ≤ 340282366920938463426481119284349108225 := Nat.mul_le_mul (show x ≤ 18446744073709551615 by omega) (show y ≤ 18446744073709551615 by omega)
  have HM := hid (mul64_any x y hx hy)
  generalize x * y = p at *
  have HLO : Hid (((p % 18446744073709551616 + s + 0) % 18446744073709551616 + c + 0) % 18446744073709551616 = (p + s + c) % 18446744073709551616) := by show _ = _; omega
  have HHI : Hid (p / 18446744073709551616 + (p % 18446744073709551616 + s + 0) / 18446744073709551616 + ((p % 18446744073709551616 + s + 0) % 18446744073709551616 + c + 0) / 18446744073709551616 = (p + s + c) / 18446744073709551616) := by show _ = _; omega
  have hB : (p + s + c) / 18446744073709551616 < 18446744073709551616 := by omega
  rw [← HLO.out, ← HHI.out]
  rw [← HHI.out] at hB
  clear HLO HHI
  have HA1 := hid (add64_any (p % 18446744073709551616) s 0 (by omega))
  have HA2 := hid (add64_any ((p % 18446744073709551616 + s + 0) % 18446744073709551616) c 0 (by omega))
  generalize ((p % 18446744073709551616 + s + 0) % 18446744073709551616 + c + 0) % 18446744073709551616 = l2 at *
  generalize ((p % 18446744073709551616 + s + 0) % 18446744073709551616 + c + 0) / 18446744073709551616 = k2 at *
  generalize (p % 18446744073709551616 + s + 0) % 18446744073709551616 = l1 at *
  generalize (p % 18446744073709551616 + s + 0) / 18446744073709551616 = k1 at *
  generalize p % 18446744073709551616 = l0 at *
  generalize p / 18446744073709551616 = k0 at *
  clear hp
  go_enter Salg.func263, Salg.ntmps263
  go_wp2_with fail
  refine (HM.out _).mono ?_
  rintro e w1 ⟨rfl, rfl⟩
  go_wp2_with fail
  refine (HA1.out _).mono ?_
  rintro e w1 ⟨rfl, rfl⟩
  go_wp2_with fail
  refine (HA2.out _).mono ?_
  rintro e w1 ⟨rfl, rfl⟩
  go_wp2_with fail
  go_ret2
  exact ⟨by go_num, rfl⟩

-- TRIAL
set_option maxHeartbeats 4000000 in
set_option maxRecDepth 100000 in
/-- trial: the corrected trial digit, and how often it fell. -/
theorem trial_any (high mid low top next : Nat) (hh : high ≤ top) (hm : mid < 18446744073709551616) (hl : low < 18446744073709551616) (ht : 9223372036854775808 ≤ top) (ht' : top < 18446744073709551616)
    (hn : next < 18446744073709551616) (w : World) :
    Calls Salg.prog 259 #[.int .u64 high, .int .u64 mid, .int .u64 low, .int .u64 top, .int .u64 next] w fun e w' =>
      e = .returned (.tuple #[n64 (trialQ high mid low top next), .int .u8 ((trial0 high mid top - trialQ high mid low top next : Nat) : Int)]) ∧ Kept [] w w' := by
  have M := Mem.start w []
  have hfx := trial_fixes (high := high) (mid := mid) (low := low) ht hn
  have hQt := trialQ_le (high := high) (mid := mid) (low := low) (top := top) (next := next) (by omega) hl
  obtain ⟨T, hT⟩ : ∃ T, T = high * 18446744073709551616 + mid := ⟨_, rfl⟩
  have ht0 : trial0 high mid top = min (T / top) 18446744073709551615 := by rw [hT]; rfl
  have hQ : trialQ high mid low top next = min ((T * 18446744073709551616 + low) / (top * 18446744073709551616 + next)) 18446744073709551615 := by rw [hT]; rfl
  have HSTOP : Hid (∀ q R, q * top + R = T → q ≤ 18446744073709551615 → q * next ≤ R * 18446744073709551616 + low → q ≤ trialQ high mid low top next) := fun q R h1 h2 h3 => by
    rw [hQ]; exact tq_stop h1 h2 (by omega) h3
  have HGO : Hid (∀ q R, q * top + R = T → R * 18446744073709551616 + low < q * next → trialQ high mid low top next + 1 ≤ q) := fun q R h1 h2 => by
    rw [hQ]; exact tq_go h1 (by omega) h2
  have hp0 : 0 < top := by omega
  clear hQ
  generalize trialQ high mid low top next = Q at *
  generalize trial0 high mid top = t0 at *
  by_cases hlt : high < top
  · have HDIV := hid (div64_any high mid top hlt hm ht')
    rw [← hT] at HDIV
    have hTl : T < top * 18446744073709551616 := by
      have : (high + 1) * 18446744073709551616 ≤ top * 18446744073709551616 := Nat.mul_le_mul_right _ hlt
      omega
    have hTq : T / top < 18446744073709551616 := (Nat.div_lt_iff_lt_mul hp0).2 (by rw [Nat.mul_comm]; exact hTl)
    have ht1 : t0 = T / top := by rw [ht0]; exact Nat.min_eq_left (by omega)
    subst ht1
    have hrt := Nat.mod_lt T hp0
    have HDM : Hid (T / top * top + T % top = T) := div_mul_mod _ _
    clear ht0 hTl hT
    generalize T / top = t0 at *
    generalize T % top = r0 at *
    go_enter Salg.func259, Salg.ntmps259
    go_wp2_with fail
    refine (HDIV.out _).mono ?_
    rintro e w1 ⟨rfl, K⟩
    replace M := M.call K
    clear K HDIV
    go_wp2_with fail
    go_loop [10, 11, 12, 14] (fun qv fv rv ov => ∃ q k r o : Nat, qv = .int .u64 q ∧ fv = .int .u8 k ∧ rv = .int .u64 r ∧ ov = .int .u64 o ∧ q + k = t0 ∧ q * top + (r + 18446744073709551616 * o) = T ∧ k * top ≤ r + 18446744073709551616 * o ∧ r < 18446744073709551616 ∧ o ≤ 1 ∧ Q ≤ q ∧ k ≤ 2) (fun qv _ _ _ => (intOf qv).toNat)
    case atStart => exact ⟨t0, 0, r0, 0, rfl, rfl, rfl, rfl, by omega, by have := HDM.out; omega, by omega, by omega, by omega, hQt, by omega⟩
    case round =>
      obtain ⟨q, k, r, o, rfl, rfl, rfl, rfl, hqk, hqr, hkr, hr, ho, hQ, hk⟩ := hrel
      have HQR := hid hqr
      have HKR := hid hkr
      have HQQ := hid hQ
      have HQK := hid hqk
      have hq64 : q < 18446744073709551616 := by omega
      clear hqr hkr hQ hqk
      have ho' : o = 0 ∨ o = 1 := by omega
      rcases ho' with rfl | rfl
      · rw [Nat.mul_zero, Nat.add_zero] at HQR HKR
        have hk1 : k ≤ 1 := by
          rcases Nat.lt_or_ge k 2 with h | h
          · omega
          · have h1 : 2 * top ≤ k * top := Nat.mul_le_mul_right _ h
            have h2 := HKR.out
            omega
        have HMUL := hid (mul64_any q next hq64 hn)
        have HST := hid (HSTOP.out q r HQR.out (by omega))
        have HG := hid (HGO.out q r HQR.out)
        generalize q * next = m at *
        have HADD := hid (add64_any r top 0 (by omega))
        have hmd := Nat.div_add_mod m 18446744073709551616
        have hml := Nat.mod_lt m (show 18446744073709551616 > 0 by decide)
        have HLE : Hid (m / 18446744073709551616 < r → m ≤ r * 18446744073709551616 + low) := fun h => by omega
        have HEQ : Hid (m / 18446744073709551616 = r → m % 18446744073709551616 ≤ low → m ≤ r * 18446744073709551616 + low) := fun h h' => by omega
        have HGT : Hid (r < m / 18446744073709551616 → r * 18446744073709551616 + low < m) := fun h => by omega
        have HG2 : Hid (m / 18446744073709551616 = r → low < m % 18446744073709551616 → r * 18446744073709551616 + low < m) := fun h h' => by omega
        clear hmd
        obtain ⟨A, hA⟩ : ∃ A, A = (r + top + 0) % 18446744073709551616 := ⟨_, rfl⟩
        obtain ⟨C, hC⟩ : ∃ C, C = (r + top + 0) / 18446744073709551616 := ⟨_, rfl⟩
        rw [← hA, ← hC] at HADD
        have hA1 : A < 18446744073709551616 := by omega
        have hC1 : C ≤ 1 := by omega
        have hAC : A + 18446744073709551616 * C = r + top := by omega
        have HAC := hid hAC
        clear hA hC hAC
        generalize m / 18446744073709551616 = h at *
        generalize m % 18446744073709551616 = l at *
        have h00 : (((0 : Nat) : Int) == 0) = true := rfl
        rcases Nat.lt_trichotomy h r with hc | hc | hc
        · have d1 : decide ((h : Int) < (r : Int)) = true := by simp; omega
          have HEN := hid (HST.out (HLE.out hc))
          clear HLE HEQ HGT HG2 HG HST HADD HAC
          go_wp2_with fail
          refine (HMUL.out _).mono ?_
          rintro e w3 ⟨rfl, rfl⟩
          have hqQ : q = Q := by have := HEN.out; have := HQQ.out; omega
          have hkk : k = t0 - Q := by have := HQK.out; omega
          subst hqQ
          subst hkk
          clear HEN HQQ HQR HKR HQK HSTOP HGO HMUL
          go_wp2_with fail
          go_ret2
          exact ⟨rfl, M.kept⟩
        · subst hc
          have d1 : decide ((h : Int) < (h : Int)) = false := by simp
          have d2 : ((h : Int) == (h : Int)) = true := by simp
          by_cases hl2 : l ≤ low
          · have d3 : decide ((l : Int) ≤ (low : Int)) = true := by simp; omega
            have HEN := hid (HST.out (HEQ.out rfl hl2))
            clear HLE HEQ HGT HG2 HG HST HADD HAC
            go_wp2_with fail
            refine (HMUL.out _).mono ?_
            rintro e w3 ⟨rfl, rfl⟩
            have hqQ : q = Q := by have := HEN.out; have := HQQ.out; omega
            have hkk : k = t0 - Q := by have := HQK.out; omega
            subst hqQ
            subst hkk
            clear HEN HQQ HQR HKR HQK HSTOP HGO HMUL
            go_wp2_with fail
            go_ret2
            exact ⟨rfl, M.kept⟩
          · have d3 : decide ((l : Int) ≤ (low : Int)) = false := by simp; omega
            have HEN := hid (HG.out (HG2.out rfl (by omega)))
            have hq1 : 1 ≤ q := by have := HEN.out; omega
            clear HLE HEQ HGT HG2 HG HST
            go_wp2_with fail
            refine (HMUL.out _).mono ?_
            rintro e w3 ⟨rfl, rfl⟩
            go_wp2_with fail
            refine (HADD.out _).mono ?_
            rintro e w4 ⟨rfl, rfl⟩
            go_wp2_with fail
            go_round
            case rel =>
              refine ⟨q - 1, k + 1, A, C, by go_num, by go_num, rfl, rfl, ?_, ?_, ?_, hA1, hC1, ?_, by omega⟩
              · have := HQK.out; omega
              · rw [HAC.out]; have := HQR.out; rw [show q = (q - 1) + 1 from by omega, Nat.add_mul, Nat.one_mul] at this; omega
              · rw [HAC.out, Nat.add_mul, Nat.one_mul]; have := HKR.out; omega
              · have := HEN.out; omega
            case measure => simp [intOf]; omega
        · have d1 : decide ((h : Int) < (r : Int)) = false := by simp; omega
          have d2 : ((h : Int) == (r : Int)) = false := by rw [beq_eq_false_iff_ne]; omega
          have HEN := hid (HG.out (HGT.out hc))
          have hq1 : 1 ≤ q := by have := HEN.out; omega
          clear HLE HEQ HGT HG2 HG HST
          go_wp2_with fail
          refine (HMUL.out _).mono ?_
          rintro e w3 ⟨rfl, rfl⟩
          go_wp2_with fail
          refine (HADD.out _).mono ?_
          rintro e w4 ⟨rfl, rfl⟩
          go_wp2_with fail
          go_round
          case rel =>
            refine ⟨q - 1, k + 1, A, C, by go_num, by go_num, rfl, rfl, ?_, ?_, ?_, hA1, hC1, ?_, by omega⟩
            · have := HQK.out; omega
            · rw [HAC.out]; have := HQR.out; rw [show q = (q - 1) + 1 from by omega, Nat.add_mul, Nat.one_mul] at this; omega
            · rw [HAC.out, Nat.add_mul, Nat.one_mul]; have := HKR.out; omega
            · have := HEN.out; omega
          case measure => simp [intOf]; omega
      · have HEN := hid (HSTOP.out q _ HQR.out (by omega) (tq_big (by omega) hn (by omega)))
        have hqQ : q = Q := by have := HEN.out; have := HQQ.out; omega
        have hkk : k = t0 - Q := by have := HQK.out; omega
        subst hqQ
        subst hkk
        clear HEN HQQ HQR HKR HQK HSTOP HGO
        go_wp2_with fail
        go_ret2
        exact ⟨rfl, M.kept⟩
  · have hTe : high = top := by omega
    subst hTe
    have HDIV := hid (div64_no high mid high (Nat.le_refl _))
    have ht1 : t0 = 18446744073709551615 := by
      rw [ht0]
      refine Nat.min_eq_right ?_
      rw [Nat.le_div_iff_mul_le hp0]
      omega
    subst ht1
    have HADD0 := hid (add64_any mid high 0 (by omega))
    obtain ⟨A0, hA0⟩ : ∃ A, A = (mid + high + 0) % 18446744073709551616 := ⟨_, rfl⟩
    obtain ⟨C0, hC0⟩ : ∃ C, C = (mid + high + 0) / 18446744073709551616 := ⟨_, rfl⟩
    rw [← hA0, ← hC0] at HADD0
    have hA01 : A0 < 18446744073709551616 := by omega
    have hC01 : C0 ≤ 1 := by omega
    have HAC0 : Hid (18446744073709551615 * high + (A0 + 18446744073709551616 * C0) = T) := by show _ = _; omega
    clear ht0 hT hA0 hC0 hlt hh
    have hgen : ∃ t0 : Nat, t0 = 18446744073709551615 := ⟨_, rfl⟩
    obtain ⟨t0, ht0⟩ := hgen
    go_enter Salg.func259, Salg.ntmps259
    go_wp2_with fail
    refine (HDIV.out _).mono ?_
    rintro e w1 ⟨rfl, rfl⟩
    go_wp2_with fail
    refine (HADD0.out _).mono ?_
    rintro e w1 ⟨rfl, rfl⟩
    go_wp2_with fail
    go_loop [10, 11, 12, 14] (fun qv fv rv ov => ∃ q k r o : Nat, qv = .int .u64 q ∧ fv = .int .u8 k ∧ rv = .int .u64 r ∧ ov = .int .u64 o ∧ q + k = 18446744073709551615 ∧ q * high + (r + 18446744073709551616 * o) = T ∧ k * high ≤ r + 18446744073709551616 * o ∧ r < 18446744073709551616 ∧ o ≤ 1 ∧ Q ≤ q ∧ k ≤ 2) (fun qv _ _ _ => (intOf qv).toNat)
    case atStart => exact ⟨18446744073709551615, 0, A0, C0, rfl, rfl, rfl, rfl, by omega, HAC0.out, by omega, hA01, hC01, hQt, by omega⟩
    case round =>
      obtain ⟨q, k, r, o, rfl, rfl, rfl, rfl, hqk, hqr, hkr, hr, ho, hQ, hk⟩ := hrel
      have HQR := hid hqr
      have HKR := hid hkr
      have HQQ := hid hQ
      have HQK := hid hqk
      have hq64 : q < 18446744073709551616 := by omega
      clear hqr hkr hQ hqk
      have ho' : o = 0 ∨ o = 1 := by omega
      rcases ho' with rfl | rfl
      · rw [Nat.mul_zero, Nat.add_zero] at HQR HKR
        have hk1 : k ≤ 1 := by
          rcases Nat.lt_or_ge k 2 with h | h
          · omega
          · have h1 : 2 * high ≤ k * high := Nat.mul_le_mul_right _ h
            have h2 := HKR.out
            omega
        have HMUL := hid (mul64_any q next hq64 hn)
        have HST := hid (HSTOP.out q r HQR.out (by omega))
        have HG := hid (HGO.out q r HQR.out)
        generalize q * next = m at *
        have HADD := hid (add64_any r high 0 (by omega))
        have hmd := Nat.div_add_mod m 18446744073709551616
        have hml := Nat.mod_lt m (show 18446744073709551616 > 0 by decide)
        have HLE : Hid (m / 18446744073709551616 < r → m ≤ r * 18446744073709551616 + low) := fun h => by omega
        have HEQ : Hid (m / 18446744073709551616 = r → m % 18446744073709551616 ≤ low → m ≤ r * 18446744073709551616 + low) := fun h h' => by omega
        have HGT : Hid (r < m / 18446744073709551616 → r * 18446744073709551616 + low < m) := fun h => by omega
        have HG2 : Hid (m / 18446744073709551616 = r → low < m % 18446744073709551616 → r * 18446744073709551616 + low < m) := fun h h' => by omega
        clear hmd
        obtain ⟨A, hA⟩ : ∃ A, A = (r + high + 0) % 18446744073709551616 := ⟨_, rfl⟩
        obtain ⟨C, hC⟩ : ∃ C, C = (r + high + 0) / 18446744073709551616 := ⟨_, rfl⟩
        rw [← hA, ← hC] at HADD
        have hA1 : A < 18446744073709551616 := by omega
        have hC1 : C ≤ 1 := by omega
        have hAC : A + 18446744073709551616 * C = r + high := by omega
        have HAC := hid hAC
        clear hA hC hAC
        generalize m / 18446744073709551616 = h at *
        generalize m % 18446744073709551616 = l at *
        have h00 : (((0 : Nat) : Int) == 0) = true := rfl
        rcases Nat.lt_trichotomy h r with hc | hc | hc
        · have d1 : decide ((h : Int) < (r : Int)) = true := by simp; omega
          have HEN := hid (HST.out (HLE.out hc))
          clear HLE HEQ HGT HG2 HG HST HADD HAC
          go_wp2_with fail
          refine (HMUL.out _).mono ?_
          rintro e w3 ⟨rfl, rfl⟩
          have hqQ : q = Q := by have := HEN.out; have := HQQ.out; omega
          have hkk : k = 18446744073709551615 - Q := by have := HQK.out; omega
          subst hqQ
          subst hkk
          clear HEN HQQ HQR HKR HQK HSTOP HGO HMUL
          go_wp2_with fail
          go_ret2
          exact ⟨rfl, M.kept⟩
        · subst hc
          have d1 : decide ((h : Int) < (h : Int)) = false := by simp
          have d2 : ((h : Int) == (h : Int)) = true := by simp
          by_cases hl2 : l ≤ low
          · have d3 : decide ((l : Int) ≤ (low : Int)) = true := by simp; omega
            have HEN := hid (HST.out (HEQ.out rfl hl2))
            clear HLE HEQ HGT HG2 HG HST HADD HAC
            go_wp2_with fail
            refine (HMUL.out _).mono ?_
            rintro e w3 ⟨rfl, rfl⟩
            have hqQ : q = Q := by have := HEN.out; have := HQQ.out; omega
            have hkk : k = 18446744073709551615 - Q := by have := HQK.out; omega
            subst hqQ
            subst hkk
            clear HEN HQQ HQR HKR HQK HSTOP HGO HMUL
            go_wp2_with fail
            go_ret2
            exact ⟨rfl, M.kept⟩
          · have d3 : decide ((l : Int) ≤ (low : Int)) = false := by simp; omega
            have HEN := hid (HG.out (HG2.out rfl (by omega)))
            have hq1 : 1 ≤ q := by have := HEN.out; omega
            clear HLE HEQ HGT HG2 HG HST
            go_wp2_with fail
            refine (HMUL.out _).mono ?_
            rintro e w3 ⟨rfl, rfl⟩
            go_wp2_with fail
            refine (HADD.out _).mono ?_
            rintro e w4 ⟨rfl, rfl⟩
            go_wp2_with fail
            go_round
            case rel =>
              refine ⟨q - 1, k + 1, A, C, by go_num, by go_num, rfl, rfl, ?_, ?_, ?_, hA1, hC1, ?_, by omega⟩
              · have := HQK.out; omega
              · rw [HAC.out]; have := HQR.out; rw [show q = (q - 1) + 1 from by omega, Nat.add_mul, Nat.one_mul] at this; omega
              · rw [HAC.out, Nat.add_mul, Nat.one_mul]; have := HKR.out; omega
              · have := HEN.out; omega
            case measure => simp [intOf]; omega
        · have d1 : decide ((h : Int) < (r : Int)) = false := by simp; omega
          have d2 : ((h : Int) == (r : Int)) = false := by rw [beq_eq_false_iff_ne]; omega
          have HEN := hid (HG.out (HGT.out hc))
          have hq1 : 1 ≤ q := by have := HEN.out; omega
          clear HLE HEQ HGT HG2 HG HST
          go_wp2_with fail
          refine (HMUL.out _).mono ?_
          rintro e w3 ⟨rfl, rfl⟩
          go_wp2_with fail
          refine (HADD.out _).mono ?_
          rintro e w4 ⟨rfl, rfl⟩
          go_wp2_with fail
          go_round
          case rel =>
            refine ⟨q - 1, k + 1, A, C, by go_num, by go_num, rfl, rfl, ?_, ?_, ?_, hA1, hC1, ?_, by omega⟩
            · have := HQK.out; omega
            · rw [HAC.out]; have := HQR.out; rw [show q = (q - 1) + 1 from by omega, Nat.add_mul, Nat.one_mul] at this; omega
            · rw [HAC.out, Nat.add_mul, Nat.one_mul]; have := HKR.out; omega
            · have := HEN.out; omega
          case measure => simp [intOf]; omega
      · have HEN := hid (HSTOP.out q _ HQR.out (by omega) (tq_big (by omega) hn (by omega)))
        have hqQ : q = Q := by have := HEN.out; have := HQQ.out; omega
        have hkk : k = 18446744073709551615 - Q := by have := HQK.out; omega
        subst hqQ
        subst hkk
        clear HEN HQQ HQR HKR HQK HSTOP HGO
        go_wp2_with fail
        go_ret2
        exact ⟨rfl, M.kept⟩

-- TAKE
end Go.Proofs.YgcsalGreat
namespace Go.Own
theorem mid_get {pre ds post : List Nat} {i : Nat} (h : i < ds.length) : (pre ++ ds ++ post)[pre.length + i]? = ds[i]? := by
  rw [List.append_assoc, List.getElem?_append_right (by omega), Nat.add_sub_cancel_left, List.getElem?_append_left h]
theorem mid_set {pre ds post : List Nat} {i x : Nat} (h : i < ds.length) : (pre ++ ds ++ post).set (pre.length + i) x = pre ++ ds.set i x ++ post := by
  rw [List.append_assoc, List.set_append_right _ _ (by omega), Nat.add_sub_cancel_left, List.set_append_left _ _ h, List.append_assoc]
end Go.Own
namespace Go.Proofs.YgcsalGreat
open Go.RowKit Go.Own

set_option maxHeartbeats 4000000 in
set_option maxRecDepth 100000 in
/-- takeTimes: q times the limbs es is taken from the limbs ds, in place. -/
theorem takeTimes_any (bu bv tu tv n q : Nat) (pre ds post vs : List Nat) (w : World) (hru : w.heap[bu]? = some (R64 tu (pre ++ ds ++ post))) (hrv : w.heap[bv]? = some (R64 tv vs)) (hne : bu ≠ bv)
    (hd : ds.length = n + 1) (hv : n ≤ vs.length) (hL : Limbs ds) (hLv : Limbs vs) (hq : q < 18446744073709551616) (hn : n ≤ 1000) (_hpre : pre.length ≤ 1000) :
    Calls Salg.prog 260 #[.slice (some ⟨bu, pre.length, none⟩) (n + 1) (n + 1), .slice (some ⟨bv, 0, none⟩) n n, .int .u64 q] w fun e w' => ∃ (b : Nat) (ds' : List Nat), b ≤ 1 ∧ e = .returned (.bool (b != 0)) ∧ ds'.length = n + 1 ∧ Limbs ds' ∧
      lval ds' + q * lval (vs.take n) = lval ds + 18446744073709551616 ^ (n + 1) * b ∧ Kept [bu] w w' ∧ w'.heap[bu]? = some (R64 tu (pre ++ ds' ++ post)) := by
  have M : Mem w [bu] [(bv, R64 tv vs), (bu, R64 tu (pre ++ ds ++ post))] w := ((Mem.start w [bu]).add hru (by simp)).add hrv (by simp; omega)
  have HL := hid hL
  have HLv := hid hLv
  clear hL hLv hru hrv
  go_enter Salg.func260, Salg.ntmps260
  go_wp2_with fail
  go_loopw [7, 8, 19] (fun cv rv iv wr => ∃ (i c r : Nat) (cur : List Nat), i ≤ n ∧ iv = .int .i64 i ∧ cv = .int .u64 c ∧ rv = .int .u64 r ∧ c < 18446744073709551616 ∧ r ≤ 1 ∧ cur.length = n + 1 ∧ Limbs cur ∧ cur.drop i = ds.drop i ∧
      lval (cur.take i) + q * lval (vs.take i) = lval (ds.take i) + 18446744073709551616 ^ i * (c + r) ∧ Mem w [bu] [(bv, R64 tv vs), (bu, R64 tu (pre ++ cur ++ post))] wr) (fun _ _ iv _ => n - (intOf iv).toNat)
  case atStart => exact ⟨0, 0, 0, ds, by omega, rfl, rfl, rfl, by decide, by omega, hd, HL.out, rfl, by simp [lval], M⟩
  case round =>
    clear M
    obtain ⟨i, c, r, cur, hi, rfl, rfl, rfl, hc, hr, hcl, hcs, hcd, hcv, M⟩ := hrel
    have HCS := hid hcs
    have HCD := hid hcd
    have HCV := hid hcv
    clear hcs hcd hcv
    have hic : i < cur.length := by omega
    have hid' : i < ds.length := by omega
    have hgc : (pre ++ cur ++ post)[pre.length + i]? = some cur[i] := by rw [mid_get hic, List.getElem?_eq_getElem hic]
    have hsame : cur[i] = ds[i] := by
      have := congrArg List.head? HCD.out
      rw [List.head?_drop, List.head?_drop, List.getElem?_eq_getElem hic, List.getElem?_eq_getElem hid'] at this
      simpa using this
    have hub := HCS.out.get hic
    have HST := hid (fun y => lval_set_take (l := cur) y hic)
    have HTK := hid (lval_take_succ hid')
    rw [← hsame] at HTK
    clear hsame
    have HSETM := hid (fun y => mid_set (pre := pre) (post := post) (x := y) hic)
    generalize cur[i] = u at *
    by_cases hin : i < n
    · have hiv : i < vs.length := by omega
      have hgv : vs[i]? = some vs[i] := List.getElem?_eq_getElem hiv
      have hxb := HLv.out.get hiv
      have HTV := hid (lval_take_succ hiv)
      generalize vs[i] = x at *
      have HMA := hid (mulAdd_any q x c 0 hq hxb hc (by decide))
      have hmb := ma_lt hq hxb hc (show 0 < 18446744073709551616 by decide)
      have HME : Hid ((q * x + c + 0) % 18446744073709551616 + 18446744073709551616 * ((q * x + c + 0) / 18446744073709551616) = q * x + c) := by show _ = _; omega
      have hlb := Nat.mod_lt (q * x + c + 0) (show 18446744073709551616 > 0 by decide)
      generalize (q * x + c + 0) % 18446744073709551616 = lo at *
      generalize (q * x + c + 0) / 18446744073709551616 = hi' at *
      have HSB := hid (sub64_any u lo r hr)
      have HSE := hid (sub_step hub hlb hr)
      have hbb : (if u < lo + r then 1 else 0) ≤ 1 := by split <;> omega
      have hdb := Nat.mod_lt (u + 18446744073709551616 - lo - r) (show 18446744073709551616 > 0 by decide)
      generalize (u + 18446744073709551616 - lo - r) % 18446744073709551616 = d at *
      generalize (if u < lo + r then 1 else 0) = b at *
      go_wp2_with ((with_reducible apply W_loadCell); rfl; (first | with_reducible exact M.r0 | with_reducible exact M.r1 | with_reducible exact M.r2 | with_reducible exact M.r3 | with_reducible exact M.r4 | with_reducible exact M.r5 | with_reducible exact M.r6 | assumption | exact M.kept.row (by assumption) (by simp)); (first | exact get_map (by assumption) | exact get_map rfl | rfl); exact Salg.underlying23; rfl; simp only [Act.put, List.setIfInBounds_toArray, List.set_cons_zero, List.set_cons_succ])
      refine (HMA.out _).mono ?_
      rintro e w3 ⟨rfl, rfl⟩
      go_wp2_with ((with_reducible apply W_loadCell); rfl; (first | with_reducible exact M.r0 | with_reducible exact M.r1 | with_reducible exact M.r2 | with_reducible exact M.r3 | with_reducible exact M.r4 | with_reducible exact M.r5 | with_reducible exact M.r6 | assumption | exact M.kept.row (by assumption) (by simp)); (first | exact get_map (by assumption) | exact get_map rfl | rfl); exact Salg.underlying23; rfl; simp only [Act.put, List.setIfInBounds_toArray, List.set_cons_zero, List.set_cons_succ])
      refine (HSB.out _).mono ?_
      rintro e w3 ⟨rfl, rfl⟩
      go_wp2_with ((with_reducible apply W_st64_1 (m := d)); rfl; rfl; rfl; exact M; exact Or.inl (by simp); exact size23; (simp; omega); clear M; intro w2 M)
      rw [HSETM.out] at M
      go_roundw
      case rel =>
        refine ⟨i + 1, hi', b, cur.set i d, by omega, by go_num, rfl, rfl, hmb, hbb, by simp [hcl], HCS.out.set hdb, ?_, ?_, M⟩
        · rw [List.drop_set_of_lt (by omega), ← List.drop_drop, ← List.drop_drop, HCD.out]
        · rw [HST.out, HTV.out, HTK.out, pow64_succ, Nat.mul_add q, Nat.mul_left_comm q]; exact tt_step HCV.out HME.out HSE.out
      case measure => simp [intOf]; omega
    · have hin' : i = n := by omega
      subst hin'
      have HSB := hid (sub64_any u c r hr)
      have HSE := hid (sub_step hub hc hr)
      have hbb : (if u < c + r then 1 else 0) ≤ 1 := by split <;> omega
      have hdb := Nat.mod_lt (u + 18446744073709551616 - c - r) (show 18446744073709551616 > 0 by decide)
      generalize (u + 18446744073709551616 - c - r) % 18446744073709551616 = d at *
      generalize (if u < c + r then 1 else 0) = b at *
      go_wp2_with ((with_reducible apply W_loadCell); rfl; (first | with_reducible exact M.r0 | with_reducible exact M.r1 | with_reducible exact M.r2 | with_reducible exact M.r3 | with_reducible exact M.r4 | with_reducible exact M.r5 | with_reducible exact M.r6 | assumption | exact M.kept.row (by assumption) (by simp)); (first | exact get_map (by assumption) | exact get_map rfl | rfl); exact Salg.underlying23; rfl; simp only [Act.put, List.setIfInBounds_toArray, List.set_cons_zero, List.set_cons_succ])
      refine (HSB.out _).mono ?_
      rintro e w3 ⟨rfl, rfl⟩
      go_wp2_with ((with_reducible apply W_st64_1 (m := d)); rfl; rfl; rfl; exact M; exact Or.inl (by simp); exact size23; (simp; omega); clear M; intro w2 M)
      rw [HSETM.out] at M
      go_ret
      refine ⟨b, cur.set i d, hbb, ?_, by simp [hcl], HCS.out.set hdb, ?_, M.kept, M.r1⟩
      · congr 2
        rcases (show b = 0 ∨ b = 1 by omega) with rfl | rfl <;> rfl
      · have e1 : (cur.set i d).take (i + 1) = cur.set i d := List.take_of_length_le (by simp; omega)
        have e2 : ds.take (i + 1) = ds := List.take_of_length_le (by omega)
        rw [← e1, ← e2, HST.out, HTK.out]
        have h1 := tt_step (x := 0) (q := q) (hi := 0) HCV.out (by rw [Nat.mul_zero, Nat.mul_zero, Nat.zero_add, Nat.add_zero]) HSE.out
        rw [pow64_succ]
        rw [Nat.mul_zero, Nat.mul_zero, Nat.zero_add, Nat.add_zero] at h1
        exact h1
-- PUT
end Go.Proofs.YgcsalGreat
namespace Go.Own
theorem pb_step {C D p c u x s k : Nat} {E : Nat} (h : C + p * c = D + E) (h1 : s + 18446744073709551616 * k = u + x + c) : (C + p * s) + 18446744073709551616 * p * k = (D + p * u) + (E + p * x) := by
  have h2 : p * s + 18446744073709551616 * p * k = p * (u + x + c) := by
    rw [← h1, Nat.mul_add, ← Nat.mul_assoc, Nat.mul_comm p 18446744073709551616]
  rw [Nat.mul_add, Nat.mul_add] at h2
  omega
theorem pb_end {C D E p c u : Nat} (h : C + p * c = D + E) (hlt : C + p * ((u + c) % 18446744073709551616) < 18446744073709551616 * p) :
    C + p * ((u + c) % 18446744073709551616) = ((D + p * u) + E) % (18446744073709551616 * p) := by
  have h1 : (D + p * u) + E = (C + p * ((u + c) % 18446744073709551616)) + 18446744073709551616 * p * ((u + c) / 18446744073709551616) := by
    have h2 : p * ((u + c) % 18446744073709551616) + 18446744073709551616 * p * ((u + c) / 18446744073709551616) = p * (u + c) := by
      rw [Nat.mul_comm 18446744073709551616 p, Nat.mul_assoc, ← Nat.mul_add, Nat.add_comm (_ % _), Nat.div_add_mod]
    rw [Nat.mul_add p u c] at h2
    omega
  rw [h1, Nat.add_mul_mod_self_left, Nat.mod_eq_of_lt hlt]
theorem wrap_add (u c : Nat) : IntKind.u64.wrap ((u : Int) + (c : Int)) = (((u + c) % 18446744073709551616 : Nat) : Int) := by rw [addN, wrapM]
end Go.Own
namespace Go.Proofs.YgcsalGreat
open Go.RowKit Go.Own

set_option maxHeartbeats 4000000 in
set_option maxRecDepth 100000 in
/-- putBack: the limbs es are added to the limbs ds, in place. -/
theorem putBack_any (bu bv tu tv n : Nat) (pre ds post vs : List Nat) (w : World) (hru : w.heap[bu]? = some (R64 tu (pre ++ ds ++ post))) (hrv : w.heap[bv]? = some (R64 tv vs)) (hne : bu ≠ bv)
    (hd : ds.length = n + 1) (hv : n ≤ vs.length) (hL : Limbs ds) (hLv : Limbs vs) (hn : n ≤ 1000) (_hpre : pre.length ≤ 1000) :
    Calls Salg.prog 261 #[.slice (some ⟨bu, pre.length, none⟩) (n + 1) (n + 1), .slice (some ⟨bv, 0, none⟩) n n] w fun e w' => ∃ (v : Value) (ds' : List Nat), e = .returned v ∧ ds'.length = n + 1 ∧ Limbs ds' ∧
      lval ds' = (lval ds + lval (vs.take n)) % 18446744073709551616 ^ (n + 1) ∧ Kept [bu] w w' ∧ w'.heap[bu]? = some (R64 tu (pre ++ ds' ++ post)) := by
  have M : Mem w [bu] [(bv, R64 tv vs), (bu, R64 tu (pre ++ ds ++ post))] w := ((Mem.start w [bu]).add hru (by simp)).add hrv (by simp; omega)
  have HL := hid hL
  have HLv := hid hLv
  clear hL hLv hru hrv
  go_enter Salg.func261, Salg.ntmps261
  go_wp2_with fail
  go_loopw [4, 11] (fun cv iv wr => ∃ (i c : Nat) (cur : List Nat), i ≤ n ∧ iv = .int .i64 i ∧ cv = .int .u64 c ∧ c ≤ 1 ∧ cur.length = n + 1 ∧ Limbs cur ∧ cur.drop i = ds.drop i ∧
      lval (cur.take i) + 18446744073709551616 ^ i * c = lval (ds.take i) + lval (vs.take i) ∧ Mem w [bu] [(bv, R64 tv vs), (bu, R64 tu (pre ++ cur ++ post))] wr) (fun _ iv _ => n - (intOf iv).toNat)
  case atStart => exact ⟨0, 0, ds, by omega, rfl, rfl, by omega, hd, HL.out, rfl, by simp [lval], M⟩
  case round =>
    clear M
    obtain ⟨i, c, cur, hi, rfl, rfl, hc, hcl, hcs, hcd, hcv, M⟩ := hrel
    have HCS := hid hcs
    have HCD := hid hcd
    have HCV := hid hcv
    clear hcs hcd hcv
    have hic : i < cur.length := by omega
    have hid' : i < ds.length := by omega
    have hgc : (pre ++ cur ++ post)[pre.length + i]? = some cur[i] := by rw [mid_get hic, List.getElem?_eq_getElem hic]
    have hsame : cur[i] = ds[i] := by
      have := congrArg List.head? HCD.out
      rw [List.head?_drop, List.head?_drop, List.getElem?_eq_getElem hic, List.getElem?_eq_getElem hid'] at this
      simpa using this
    have hub := HCS.out.get hic
    have HST := hid (fun y => lval_set_take (l := cur) y hic)
    have HTK := hid (lval_take_succ hid')
    rw [← hsame] at HTK
    clear hsame
    have HSETM := hid (fun y => mid_set (pre := pre) (post := post) (x := y) hic)
    generalize cur[i] = u at *
    by_cases hin : i < n
    · have hiv : i < vs.length := by omega
      have hgv : vs[i]? = some vs[i] := List.getElem?_eq_getElem hiv
      have hxb := HLv.out.get hiv
      have HTV := hid (lval_take_succ hiv)
      generalize vs[i] = x at *
      have HAD := hid (add64_any u x c hc)
      have HAE : Hid ((u + x + c) % 18446744073709551616 + 18446744073709551616 * ((u + x + c) / 18446744073709551616) = u + x + c) := by show _ = _; omega
      have hsb := Nat.mod_lt (u + x + c) (show 18446744073709551616 > 0 by decide)
      have hkb : (u + x + c) / 18446744073709551616 ≤ 1 := by omega
      generalize (u + x + c) % 18446744073709551616 = s at *
      generalize (u + x + c) / 18446744073709551616 = k at *
      go_wp2_with ((with_reducible apply W_loadCell); rfl; (first | with_reducible exact M.r0 | with_reducible exact M.r1 | with_reducible exact M.r2 | with_reducible exact M.r3 | with_reducible exact M.r4 | with_reducible exact M.r5 | with_reducible exact M.r6 | assumption | exact M.kept.row (by assumption) (by simp)); (first | exact get_map (by assumption) | exact get_map rfl | rfl); exact Salg.underlying23; rfl; simp only [Act.put, List.setIfInBounds_toArray, List.set_cons_zero, List.set_cons_succ])
      refine (HAD.out _).mono ?_
      rintro e w3 ⟨rfl, rfl⟩
      go_wp2_with ((with_reducible apply W_st64_1 (m := s)); rfl; rfl; rfl; exact M; exact Or.inl (by simp); exact size23; (simp; omega); clear M; intro w2 M)
      rw [HSETM.out] at M
      go_roundw
      case rel =>
        refine ⟨i + 1, k, cur.set i s, by omega, by go_num, rfl, hkb, by simp [hcl], HCS.out.set hsb, ?_, ?_, M⟩
        · rw [List.drop_set_of_lt (by omega), ← List.drop_drop, ← List.drop_drop, HCD.out]
        · rw [HST.out, HTV.out, HTK.out, pow64_succ]; exact pb_step HCV.out HAE.out
      case measure => simp [intOf]; omega
    · have hin' : i = n := by omega
      subst hin'
      go_wp2_with (first
        | ((with_reducible apply W_loadCell); rfl; (first | with_reducible exact M.r0 | with_reducible exact M.r1 | with_reducible exact M.r2 | with_reducible exact M.r3 | with_reducible exact M.r4 | with_reducible exact M.r5 | with_reducible exact M.r6 | assumption | exact M.kept.row (by assumption) (by simp)); (first | exact get_map (by assumption) | exact get_map rfl | rfl); exact Salg.underlying23; rfl; simp only [Act.put, List.setIfInBounds_toArray, List.set_cons_zero, List.set_cons_succ])
        | ((with_reducible apply W_st64_1 (m := (u + c) % 18446744073709551616)); rfl; rfl; exact wrap_add u c; exact M; exact Or.inl (by simp); exact size23; (simp; omega); clear M; intro w2 M))
      rw [HSETM.out] at M
      go_end0
      have hLs : Limbs (cur.set i ((u + c) % 18446744073709551616)) := HCS.out.set (Nat.mod_lt _ (by decide))
      refine ⟨_, cur.set i ((u + c) % 18446744073709551616), rfl, by simp [hcl], hLs, ?_, M.kept, M.r1⟩
      have e1 : (cur.set i ((u + c) % 18446744073709551616)).take (i + 1) = cur.set i ((u + c) % 18446744073709551616) := List.take_of_length_le (by simp; omega)
      have e2 : ds.take (i + 1) = ds := List.take_of_length_le (by omega)
      have h1 := lval_lt hLs
      rw [List.length_set, hcl, ← e1, HST.out, pow64_succ] at h1
      rw [← e1, ← e2, HST.out, HTK.out, pow64_succ]
      exact pb_end HCV.out h1
end Go.Proofs.YgcsalGreat

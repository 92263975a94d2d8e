/-
  The walks of math/bits.Div64 and num.Div64.
-/
import Derived.Test.YgcsalGreatBits
import Derived.Test.YgcsalGreatShift
import Derived.Test.YgcsalGreatOrder
import Derived.Test.YgcsalGreatPlainF
import Derived.Deep.CutBlock
set_option linter.unusedSimpArgs false
namespace Go.Proofs.YgcsalGreat
open Go.RowKit Go.Own

set_option maxHeartbeats 1000000 in
set_option maxRecDepth 100000 in
theorem bitsDiv_zero (lo y : Nat) (hl : lo < 18446744073709551616) (hy : y < 18446744073709551616) (h0 : 0 < y) (w : World) :
    Calls Salg.prog 257 #[.int .u64 0, .int .u64 lo, .int .u64 y] w fun e w' => e = .returned (.tuple #[n64 (lo / y), n64 (lo % y)]) ∧ Kept [] w w' := by
  have M := Mem.start w []
  have hy0 : ((y : Int) == 0) = false := by rw [beq_eq_false_iff_ne]; omega
  have hle : decide ((y : Int) ≤ 0) = false := by simp; omega
  go_enter Salg.func257, Salg.ntmps257
  go_wp2_with fail
  refine S_region (by kernel_rfl) ?_
  refine S_quiet 0 8 (by kernel_rfl) (by decide) M.drew ?_
  clear M
  simp only [List.take_succ_cons, List.take_zero, List.drop_zero, List.drop_succ_cons, Nat.sub_zero, Nat.reduceSub]
  ((with_reducible apply Q_run); rfl; (intro w M; go_simp; (try go_ints); (try simp only [↓IntWalk.iteOmega]); (try with_reducible rfl)); simp only [Act.put, List.setIfInBounds_toArray, List.set_cons_zero, List.set_cons_succ])
  ((with_reducible apply Q_run); rfl; (intro w M; go_simp; (try go_ints); (try simp only [↓IntWalk.iteOmega]); (try with_reducible rfl)); simp only [Act.put, List.setIfInBounds_toArray, List.set_cons_zero, List.set_cons_succ])
  ((with_reducible apply Q_run); rfl; (intro w M; go_simp; (try go_ints); (try simp only [↓IntWalk.iteOmega]); (try with_reducible rfl)); simp only [Act.put, List.setIfInBounds_toArray, List.set_cons_zero, List.set_cons_succ])
  ((with_reducible apply Q_run); rfl; (intro w M; go_simp; (try go_ints); (try simp only [↓IntWalk.iteOmega]); (try with_reducible rfl)); simp only [Act.put, List.setIfInBounds_toArray, List.set_cons_zero, List.set_cons_succ])
  ((with_reducible apply Q_run); rfl; (intro w M; go_simp; (try go_ints); (try simp only [↓IntWalk.iteOmega]); (try with_reducible rfl)); simp only [Act.put, List.setIfInBounds_toArray, List.set_cons_zero, List.set_cons_succ])
  ((with_reducible apply Q_run); rfl; (intro w M; go_simp; (try go_ints); (try simp only [↓IntWalk.iteOmega]); (try with_reducible rfl)); simp only [Act.put, List.setIfInBounds_toArray, List.set_cons_zero, List.set_cons_succ])
  ((with_reducible apply Q_run); rfl; (intro w M; go_simp; (try go_ints); (try simp only [↓IntWalk.iteOmega]); (try with_reducible rfl)); simp only [Act.put, List.setIfInBounds_toArray, List.set_cons_zero, List.set_cons_succ])
  ((with_reducible apply Q_run); rfl; (intro w M; go_simp; (try go_ints); (try simp only [↓IntWalk.iteOmega]); (try with_reducible rfl)); simp only [Act.put, List.setIfInBounds_toArray, List.set_cons_zero, List.set_cons_succ])
  refine Q_nil ?_
  intro w4 M
  refine S_done ?_
  go_wp2_with fail
  go_ret2
  have h1 : lo / y < 18446744073709551616 := Nat.lt_of_le_of_lt (Nat.div_le_self _ _) hl
  exact ⟨by rw [← Int.natCast_ediv, wrapN _ h1]; rfl, M.kept⟩

set_option maxHeartbeats 2000000 in
set_option maxRecDepth 100000 in
theorem bitsDiv_any (hi lo y : Nat) (hh : hi < y) (hl : lo < 18446744073709551616) (hy : y < 18446744073709551616) (h0 : 0 < hi) (w : World) :
    Calls Salg.prog 257 #[.int .u64 hi, .int .u64 lo, .int .u64 y] w fun e w' => e = .returned (.tuple #[n64 ((hi * 18446744073709551616 + lo) / y), n64 ((hi * 18446744073709551616 + lo) % y)]) ∧ Kept [] w w' := by
  have M := Mem.start w []
  have hy0 : ((y : Int) == 0) = false := by rw [beq_eq_false_iff_ne]; omega
  have hh0 : ((hi : Int) == 0) = false := by rw [beq_eq_false_iff_ne]; omega
  have hle : decide ((y : Int) ≤ (hi : Int)) = false := by simp; omega
  have hle2 : decide (y ≤ hi) = false := by simp; omega
  have HLZ := hid (bitsLz_any y hy)
  have hbl := blen_lt y
  have hbg := blen_ge (x := y) (by omega)
  have hbp := blen_pos (x := y) (by omega)
  have hb64 := blen_le (k := 64) (x := y) hy
  have hs : 64 - blen y < 64 := by omega
  have hYlt : y * 2 ^ (64 - blen y) < 18446744073709551616 := by
    have := Nat.mul_lt_mul_of_pos_right hbl (Nat.pow_pos (n := 64 - blen y) (show 0 < 2 by decide))
    rw [← Nat.pow_add, show blen y + (64 - blen y) = 64 from by omega] at this
    exact this
  have hYge : 9223372036854775808 ≤ y * 2 ^ (64 - blen y) := by
    have := Nat.mul_le_mul_right (2 ^ (64 - blen y)) hbg
    rw [← Nat.pow_add, show blen y - 1 + (64 - blen y) = 63 from by omega] at this
    exact this
  clear hbl hbg hbp hb64
  generalize 64 - blen y = s at *
  obtain ⟨hN, hUY, hhs⟩ := norm_parts (lo := lo) hs hh hl hYlt
  have hcl := up_carry_lt (x := lo) hs hl
  have HY := hid (wrap_shl y s)
  rw [Nat.mod_eq_of_lt hYlt] at HY
  have HU : Hid (bits .or .u64 (IntKind.u64.wrap ((hi : Int) * 2 ^ s)) ((lo : Int) / 2 ^ (64 - s)) = ((hi * 2 ^ s + lo / 2 ^ (64 - s) : Nat) : Int)) := by
    show _ = _
    rw [wrap_shl, div_cast, Nat.mod_eq_of_lt hhs, bits_or_u64_nat _ _ hhs (by omega), or_add s (Nat.mul_mod_left _ _) hcl]
  have HT := hid (wrap_shl lo s)
  have hTlt : lo * 2 ^ s % 18446744073709551616 < 18446744073709551616 := Nat.mod_lt _ (by decide)
  have HN := hid hN
  clear hN hcl hhs
  obtain ⟨N, hNe⟩ : ∃ N, N = hi * 18446744073709551616 + lo := ⟨_, rfl⟩
  rw [← hNe] at HN ⊢
  clear hNe
  generalize hYe : y * 2 ^ s = Y at *
  have HYE := hid hYe
  generalize hi * 2 ^ s + lo / 2 ^ (64 - s) = U at *
  generalize lo * 2 ^ s % 18446744073709551616 = T at *
  clear hYe
  have HYd : Hid ((Y : Int) / 4294967296 = ((Y / 4294967296 : Nat) : Int)) := divN Y
  have HYm := hid (maskN Y hYlt)
  have HTd : Hid ((T : Int) / 4294967296 = ((T / 4294967296 : Nat) : Int)) := divN T
  have HTm := hid (maskN T hTlt)
  have hYs := Nat.div_add_mod Y 4294967296
  have hYs' : Y / 4294967296 * 4294967296 + Y % 4294967296 = Y := by omega
  have HYS := hid hYs'
  have hn0 := Nat.mod_lt Y (show 4294967296 > 0 by decide)
  have hn1 : 2147483648 ≤ Y / 4294967296 := by omega
  have hn1' : Y / 4294967296 < 4294967296 := by omega
  have hu0 := Nat.mod_lt T (show 4294967296 > 0 by decide)
  have hu1 : T / 4294967296 < 4294967296 := by omega
  have HNT : Hid (N * 2 ^ s = (U * 4294967296 + T / 4294967296) * 4294967296 + T % 4294967296) := by show _ = _; rw [HN.out]; exact split32 _ _
  clear hYs hYs' HN
  generalize Y / 4294967296 = yn1 at *
  generalize Y % 4294967296 = yn0 at *
  generalize T / 4294967296 = un1 at *
  generalize T % 4294967296 = un0 at *
  have hUB : U < 18446744073709551616 := by omega
  have hdm0 : U / yn1 * yn1 + U % yn1 = U := by rw [Nat.mul_comm]; exact Nat.div_add_mod _ _
  have hrl0 := Nat.mod_lt U (show yn1 > 0 by omega)
  have hqu0 : (U * 4294967296 + un1) / Y ≤ U / yn1 := by
    have h1 := Nat.div_le_div_left (a := U * 4294967296 + un1) (show yn1 * 4294967296 ≤ Y by have := HYS.out; omega) (show 0 < yn1 * 4294967296 by omega)
    rw [Nat.mul_comm yn1, ← Nat.div_div_eq_div_mul, show (U * 4294967296 + un1) / 4294967296 = U from by omega] at h1
    exact h1
  have HQU0 := hid hqu0
  have hql0 := dg_qlt hdm0 hUB hn1
  have HDM0 := hid (Nat.div_add_mod U yn1)
  have hP0 : U / yn1 * yn1 ≤ U := by omega
  have HQ0 : Hid (IntKind.u64.wrap ((U : Int) / (yn1 : Int)) = ((U / yn1 : Nat) : Int)) := by show _ = _; rw [← Int.natCast_ediv, wrapN _ (by omega)]
  have HP0 : Hid (IntKind.u64.wrap (((U / yn1 : Nat) : Int) * (yn1 : Int)) = ((U / yn1 * yn1 : Nat) : Int)) := by show _ = _; rw [← Int.natCast_mul, wrapN _ (by omega)]
  have hPR0 : U / yn1 * yn1 + U % yn1 = U := hdm0
  clear hqu0 hdm0 hP0
  generalize U / yn1 * yn1 = P0 at *
  generalize U / yn1 = qq0 at *
  generalize U % yn1 = rr0 at *
  obtain ⟨D, HD⟩ : ∃ D, Hid ((U * 4294967296 + un1) / Y = D) := ⟨_, rfl⟩
  obtain ⟨R, HR⟩ : ∃ R, Hid ((U * 4294967296 + un1) % Y = R) := ⟨_, rfl⟩
  rw [HD.out] at HQU0
  have hRY : R < Y := by rw [← HR.out]; exact Nat.mod_lt _ (by omega)
  have hD1 : D < 4294967296 := by rw [← HD.out]; exact dg_lt hUY hu1
  have HE1 : Hid (D * Y + R = U * 4294967296 + un1) := by show _ = _; rw [← HD.out, ← HR.out]; exact div_mul_mod _ _
  have hRB : R < 18446744073709551616 := by omega
  have hdm1 : R / yn1 * yn1 + R % yn1 = R := by rw [Nat.mul_comm]; exact Nat.div_add_mod _ _
  have hrl1 := Nat.mod_lt R (show yn1 > 0 by omega)
  have hqu1 : (R * 4294967296 + un0) / Y ≤ R / yn1 := by
    have h1 := Nat.div_le_div_left (a := R * 4294967296 + un0) (show yn1 * 4294967296 ≤ Y by have := HYS.out; omega) (show 0 < yn1 * 4294967296 by omega)
    rw [Nat.mul_comm yn1, ← Nat.div_div_eq_div_mul, show (R * 4294967296 + un0) / 4294967296 = R from by omega] at h1
    exact h1
  have HQU1 := hid hqu1
  have hql1 := dg_qlt hdm1 hRB hn1
  have HDM1 := hid (Nat.div_add_mod R yn1)
  have hP1 : R / yn1 * yn1 ≤ R := by omega
  have HQ1 : Hid (IntKind.u64.wrap ((R : Int) / (yn1 : Int)) = ((R / yn1 : Nat) : Int)) := by show _ = _; rw [← Int.natCast_ediv, wrapN _ (by omega)]
  have HP1 : Hid (IntKind.u64.wrap (((R / yn1 : Nat) : Int) * (yn1 : Int)) = ((R / yn1 * yn1 : Nat) : Int)) := by show _ = _; rw [← Int.natCast_mul, wrapN _ (by omega)]
  have hPR1 : R / yn1 * yn1 + R % yn1 = R := hdm1
  clear hqu1 hdm1 hP1
  generalize R / yn1 * yn1 = P1 at *
  generalize R / yn1 = qq1 at *
  generalize R % yn1 = rr1 at *
  obtain ⟨D0, HD0⟩ : ∃ D, Hid ((R * 4294967296 + un0) / Y = D) := ⟨_, rfl⟩
  obtain ⟨R0, HR0⟩ : ∃ R', Hid ((R * 4294967296 + un0) % Y = R') := ⟨_, rfl⟩
  rw [HD0.out] at HQU1
  have hRY0 : R0 < Y := by rw [← HR0.out]; exact Nat.mod_lt _ (by omega)
  have hD0 : D0 < 4294967296 := by rw [← HD0.out]; exact dg_lt hRY hu0
  have HE0 : Hid (D0 * Y + R0 = R * 4294967296 + un0) := by show _ = _; rw [← HD0.out, ← HR0.out]; exact div_mul_mod _ _
  have HFIN := hid (dg_fin HNT.out (show 0 < y by omega) HYE.out.symm HE1.out HE0.out hRY0)
  rw [← HFIN.out.1, ← HFIN.out.2]
  clear HNT HYE HFIN HR HR0
  have HRW : Hid (IntKind.u64.wrap (IntKind.u64.wrap (IntKind.u64.wrap ((U : Int) * 4294967296) + (un1 : Int)) - IntKind.u64.wrap ((D : Int) * (Y : Int))) = (R : Int)) := by
    show _ = _
    rw [← Int.natCast_mul, show (U : Int) * 4294967296 = ((U * 4294967296 : Nat) : Int) from by omega]
    simp only [IntKind.wrap_u64]
    exact wrap_rest HE1.out hRB
  have HRW0 : Hid (IntKind.u64.wrap (IntKind.u64.wrap (IntKind.u64.wrap ((R : Int) * 4294967296) + (un0 : Int)) - IntKind.u64.wrap ((D0 : Int) * (Y : Int))) = (R0 : Int)) := by
    show _ = _
    rw [← Int.natCast_mul, show (R : Int) * 4294967296 = ((R * 4294967296 : Nat) : Int) from by omega]
    simp only [IntKind.wrap_u64]
    exact wrap_rest HE0.out (by omega)
  have HRS : Hid ((R0 : Int) / 2 ^ s = ((R0 / 2 ^ s : Nat) : Int)) := div_cast _ _
  clear HE1 HE0
  go_enter Salg.func257, Salg.ntmps257
  go_wp2_with fail
  refine (HLZ.out _).mono ?_
  rintro e w1 ⟨rfl, rfl⟩
  go_upto_block 0 with (first | simp only [HY.out] | simp only [HYd.out] | simp only [HYm.out] | simp only [HU.out] | simp only [HT.out] | simp only [HTd.out] | simp only [HTm.out] | simp only [HQ0.out] | simp only [HP0.out])
  go_cut [15, 16] from 67 to 85 (fun s1 s2 wx => s1 = .int .u64 ((D : Nat) : Int) ∧ wx = w1)
  case first =>
    go_wp2_with fail
    go_loop [15, 16] (fun qv rv => ∃ q r : Nat, qv = .int .u64 q ∧ rv = .int .u64 r ∧ q * yn1 + r = U ∧ r < 4294967296 ∧ D ≤ q) (fun qv _ => (intOf qv).toNat)
    case atStart => exact ⟨qq0, rr0, rfl, by first | rfl | go_num, by rw [Nat.mul_comm]; exact HDM0.out, by omega, HQU0.out⟩
    case round =>
      obtain ⟨q, r, rfl, rfl, hqr, hr, hq⟩ := hrel
      have HQR := hid hqr
      have HQ := hid hq
      have hql := dg_qlt hqr hUB hn1
      clear hqr hq
      have HEND : Hid (q * yn0 ≤ 4294967296 * r + un1 → q = D) := fun h => by
        have h1 := dg_stop HQR.out h (by omega)
        rw [HYS.out, HD.out] at h1
        have h2 := HQ.out
        omega
      have HGO : Hid (4294967296 ≤ q ∨ 4294967296 * r + un1 < q * yn0 → D + 1 ≤ q) := fun h => by
        have h1 := dg_go HQR.out (by rw [HYS.out]; exact hUY) hu1 h
        rw [HYS.out, HD.out] at h1
        exact h1
      have HPQ : Hid (q < 4294967296 → IntKind.u64.wrap ((q : Int) * (yn0 : Int)) = ((q * yn0 : Nat) : Int)) := fun h => by
        have : q * yn0 ≤ 4294967295 * 4294967295 := Nat.mul_le_mul (by omega) (by omega)
        rw [← Int.natCast_mul, wrapN _ (by omega)]
      have HBR : Hid (∀ q', q = q' + 1 → 4294967296 ≤ r + yn1 → D + 1 ≤ q → q' = D) := fun q' h1 h2 h3 => by
        have h4 : q' * yn1 + (r + yn1) = U := by have := HQR.out; rw [h1, Nat.add_mul, Nat.one_mul] at this; omega
        have h5 := dg_break (d := un1) h4 h2 (by rw [HYS.out]; exact hUY) hn0
        have h6 := dg_stop h4 h5 (by omega)
        rw [HYS.out, HD.out] at h6
        omega
      have HNX : Hid (∀ q', q = q' + 1 → q' * yn1 + (r + yn1) = U) := fun q' h1 => by have := HQR.out; rw [h1, Nat.add_mul, Nat.one_mul] at this; omega
      by_cases hb : 4294967296 ≤ q
      · have db : decide ((4294967296 : Int) ≤ (q : Int)) = true := by simp; omega
        have hgo := HGO.out (Or.inl hb)
        clear HEND HGO HPQ hb
        have hq1 : 1 ≤ q := by omega
        have HGO' := hid hgo
        clear hgo
        by_cases hrb : 4294967296 ≤ r + yn1
        · have drb : decide ((4294967296 : Int) ≤ (r : Int) + (yn1 : Int)) = true := by simp; omega
          have HEN := hid (HBR.out (q - 1) (by omega) hrb HGO'.out)
          clear HBR HNX hrb
          go_wp2_with fail
          go_meet
          case rel => exact ⟨by rw [← HEN.out]; go_num, rfl⟩
        · have drb : decide ((4294967296 : Int) ≤ (r : Int) + (yn1 : Int)) = false := by simp; omega
          have HNX' := hid (HNX.out (q - 1) (by omega))
          have hrb' : r + yn1 < 4294967296 := by omega
          clear HBR HNX hrb
          go_wp2_with fail
          go_round
          case rel => exact ⟨q - 1, r + yn1, by go_num, by go_num, HNX'.out, by omega, by have := HGO'.out; omega⟩
          case measure => simp [intOf]; omega
      · have db : decide ((4294967296 : Int) ≤ (q : Int)) = false := by simp; omega
        have HW := hid (HPQ.out (by omega))
        have hpl : q * yn0 ≤ 4294967295 * 4294967295 := Nat.mul_le_mul (by omega) (by omega)
        generalize q * yn0 = p at *
        by_cases hc : 4294967296 * r + un1 < p
        · have hgo := HGO.out (Or.inr hc)
          have dc : decide (4294967296 * (r : Int) + (un1 : Int) < (p : Int)) = true := by simp; omega
          clear HEND HGO HPQ hb hc
          have hq1 : 1 ≤ q := by omega
          have HGO' := hid hgo
          clear hgo
          by_cases hrb : 4294967296 ≤ r + yn1
          · have drb : decide ((4294967296 : Int) ≤ (r : Int) + (yn1 : Int)) = true := by simp; omega
            have HEN := hid (HBR.out (q - 1) (by omega) hrb HGO'.out)
            clear HBR HNX hrb
            go_wp2_with (first | simp only [HW.out] | fail)
            go_meet
            case rel => exact ⟨by rw [← HEN.out]; go_num, rfl⟩
          · have drb : decide ((4294967296 : Int) ≤ (r : Int) + (yn1 : Int)) = false := by simp; omega
            have HNX' := hid (HNX.out (q - 1) (by omega))
            have hrb' : r + yn1 < 4294967296 := by omega
            clear HBR HNX hrb
            go_wp2_with (first | simp only [HW.out] | fail)
            go_round
            case rel => exact ⟨q - 1, r + yn1, by go_num, by go_num, HNX'.out, by omega, by have := HGO'.out; omega⟩
            case measure => simp [intOf]; omega
        · have HEN := hid (HEND.out (by omega))
          have dc : decide (4294967296 * (r : Int) + (un1 : Int) < (p : Int)) = false := by simp; omega
          clear HEND HGO HPQ HBR HNX hb hc
          go_wp2_with (simp only [HW.out])
          go_meet
          case rel => exact ⟨by rw [← HEN.out], rfl⟩
  case rest =>
    obtain ⟨rfl, rfl⟩ := hcut
    go_upto_block 2 with (first | simp only [HRW.out] | simp only [HQ1.out] | simp only [HP1.out])
    go_cut [18, 16] from 102 to 120 (fun s1 s2 wx => s1 = .int .u64 ((D0 : Nat) : Int) ∧ wx = wc)
    case first =>
      go_wp2_with fail
      go_loop [18, 16] (fun qv rv => ∃ q r : Nat, qv = .int .u64 q ∧ rv = .int .u64 r ∧ q * yn1 + r = R ∧ r < 4294967296 ∧ D0 ≤ q) (fun qv _ => (intOf qv).toNat)
      case atStart => exact ⟨qq1, rr1, rfl, by first | rfl | go_num, by rw [Nat.mul_comm]; exact HDM1.out, by omega, HQU1.out⟩
      case round =>
        obtain ⟨q, r, rfl, rfl, hqr, hr, hq⟩ := hrel
        have HQR := hid hqr
        have HQ := hid hq
        have hql := dg_qlt hqr hRB hn1
        clear hqr hq
        have HEND : Hid (q * yn0 ≤ 4294967296 * r + un0 → q = D0) := fun h => by
          have h1 := dg_stop HQR.out h (by omega)
          rw [HYS.out, HD0.out] at h1
          have h2 := HQ.out
          omega
        have HGO : Hid (4294967296 ≤ q ∨ 4294967296 * r + un0 < q * yn0 → D0 + 1 ≤ q) := fun h => by
          have h1 := dg_go HQR.out (by rw [HYS.out]; exact hRY) hu0 h
          rw [HYS.out, HD0.out] at h1
          exact h1
        have HPQ : Hid (q < 4294967296 → IntKind.u64.wrap ((q : Int) * (yn0 : Int)) = ((q * yn0 : Nat) : Int)) := fun h => by
          have : q * yn0 ≤ 4294967295 * 4294967295 := Nat.mul_le_mul (by omega) (by omega)
          rw [← Int.natCast_mul, wrapN _ (by omega)]
        have HBR : Hid (∀ q', q = q' + 1 → 4294967296 ≤ r + yn1 → D0 + 1 ≤ q → q' = D0) := fun q' h1 h2 h3 => by
          have h4 : q' * yn1 + (r + yn1) = R := by have := HQR.out; rw [h1, Nat.add_mul, Nat.one_mul] at this; omega
          have h5 := dg_break (d := un0) h4 h2 (by rw [HYS.out]; exact hRY) hn0
          have h6 := dg_stop h4 h5 (by omega)
          rw [HYS.out, HD0.out] at h6
          omega
        have HNX : Hid (∀ q', q = q' + 1 → q' * yn1 + (r + yn1) = R) := fun q' h1 => by have := HQR.out; rw [h1, Nat.add_mul, Nat.one_mul] at this; omega
        by_cases hb : 4294967296 ≤ q
        · have db : decide ((4294967296 : Int) ≤ (q : Int)) = true := by simp; omega
          have hgo := HGO.out (Or.inl hb)
          clear HEND HGO HPQ hb
          have hq1 : 1 ≤ q := by omega
          have HGO' := hid hgo
          clear hgo
          by_cases hrb : 4294967296 ≤ r + yn1
          · have drb : decide ((4294967296 : Int) ≤ (r : Int) + (yn1 : Int)) = true := by simp; omega
            have HEN := hid (HBR.out (q - 1) (by omega) hrb HGO'.out)
            clear HBR HNX hrb
            go_wp2_with fail
            go_meet
            case rel => exact ⟨by rw [← HEN.out]; go_num, rfl⟩
          · have drb : decide ((4294967296 : Int) ≤ (r : Int) + (yn1 : Int)) = false := by simp; omega
            have HNX' := hid (HNX.out (q - 1) (by omega))
            have hrb' : r + yn1 < 4294967296 := by omega
            clear HBR HNX hrb
            go_wp2_with fail
            go_round
            case rel => exact ⟨q - 1, r + yn1, by go_num, by go_num, HNX'.out, by omega, by have := HGO'.out; omega⟩
            case measure => simp [intOf]; omega
        · have db : decide ((4294967296 : Int) ≤ (q : Int)) = false := by simp; omega
          have HW := hid (HPQ.out (by omega))
          have hpl : q * yn0 ≤ 4294967295 * 4294967295 := Nat.mul_le_mul (by omega) (by omega)
          generalize q * yn0 = p at *
          by_cases hc : 4294967296 * r + un0 < p
          · have hgo := HGO.out (Or.inr hc)
            have dc : decide (4294967296 * (r : Int) + (un0 : Int) < (p : Int)) = true := by simp; omega
            clear HEND HGO HPQ hb hc
            have hq1 : 1 ≤ q := by omega
            have HGO' := hid hgo
            clear hgo
            by_cases hrb : 4294967296 ≤ r + yn1
            · have drb : decide ((4294967296 : Int) ≤ (r : Int) + (yn1 : Int)) = true := by simp; omega
              have HEN := hid (HBR.out (q - 1) (by omega) hrb HGO'.out)
              clear HBR HNX hrb
              go_wp2_with (first | simp only [HW.out] | fail)
              go_meet
              case rel => exact ⟨by rw [← HEN.out]; go_num, rfl⟩
            · have drb : decide ((4294967296 : Int) ≤ (r : Int) + (yn1 : Int)) = false := by simp; omega
              have HNX' := hid (HNX.out (q - 1) (by omega))
              have hrb' : r + yn1 < 4294967296 := by omega
              clear HBR HNX hrb
              go_wp2_with (first | simp only [HW.out] | fail)
              go_round
              case rel => exact ⟨q - 1, r + yn1, by go_num, by go_num, HNX'.out, by omega, by have := HGO'.out; omega⟩
              case measure => simp [intOf]; omega
          · have HEN := hid (HEND.out (by omega))
            have dc : decide (4294967296 * (r : Int) + (un0 : Int) < (p : Int)) = false := by simp; omega
            clear HEND HGO HPQ HBR HNX hb hc
            go_wp2_with (simp only [HW.out])
            go_meet
            case rel => exact ⟨by rw [← HEN.out], rfl⟩
    case rest =>
      obtain ⟨rfl, rfl⟩ := hcut
      go_wp2_with (first | simp only [HRW0.out] | simp only [HRS.out])
      go_ret2
      exact ⟨by go_num, M.kept⟩

set_option maxHeartbeats 1000000 in
set_option maxRecDepth 100000 in
theorem div64_any (hi lo y : Nat) (hh : hi < y) (hl : lo < 18446744073709551616) (hy : y < 18446744073709551616) (w : World) :
    Calls Salg.prog 247 #[.int .u64 hi, .int .u64 lo, .int .u64 y] w fun e w' => e = .returned (.tuple #[n64 ((hi * 18446744073709551616 + lo) / y), n64 ((hi * 18446744073709551616 + lo) % y), .bool true]) ∧ Kept [] w w' := by
  have hy0 : ((y : Int) == 0) = false := by rw [beq_eq_false_iff_ne]; omega
  have hle : decide ((y : Int) ≤ (hi : Int)) = false := by simp; omega
  have hle2 : decide (y ≤ hi) = false := by simp; omega
  have HD : Hid (∀ w, Calls Salg.prog 257 #[.int .u64 hi, .int .u64 lo, .int .u64 y] w fun e w' => e = .returned (.tuple #[n64 ((hi * 18446744073709551616 + lo) / y), n64 ((hi * 18446744073709551616 + lo) % y)]) ∧ Kept [] w w') := fun w => by
    rcases Nat.eq_zero_or_pos hi with h | h
    · subst h
      rw [Nat.zero_mul, Nat.zero_add]
      exact bitsDiv_zero lo y hl hy hh w
    · exact bitsDiv_any hi lo y hh hl hy h w
  obtain ⟨q, hq⟩ : ∃ q, q = (hi * 18446744073709551616 + lo) / y := ⟨_, rfl⟩
  obtain ⟨r, hr⟩ : ∃ r, r = (hi * 18446744073709551616 + lo) % y := ⟨_, rfl⟩
  rw [← hq, ← hr] at HD ⊢
  clear hq hr
  go_enter Salg.func247, Salg.ntmps247
  go_wp2_with fail
  refine (HD.out _).mono ?_
  rintro e w1 ⟨rfl, K⟩
  go_wp2_with fail
  go_ret3
  exact ⟨rfl, K⟩

set_option maxHeartbeats 1000000 in
set_option maxRecDepth 100000 in
theorem div64_no (hi lo y : Nat) (hh : y ≤ hi) (w : World) :
    Calls Salg.prog 247 #[.int .u64 hi, .int .u64 lo, .int .u64 y] w fun e w' => e = .returned (.tuple #[n64 0, n64 0, .bool false]) ∧ w' = w := by
  have hle : decide ((y : Int) ≤ (hi : Int)) = true := by simp; omega
  have hle2 : decide (y ≤ hi) = true := by simp; omega
  by_cases h : y = 0
  · subst h
    go_enter Salg.func247, Salg.ntmps247
    go_wp2_with fail
    go_ret3
    exact ⟨rfl, rfl⟩
  · have hy0 : ((y : Int) == 0) = false := by rw [beq_eq_false_iff_ne]; omega
    go_enter Salg.func247, Salg.ntmps247
    go_wp2_with fail
    go_ret3
    exact ⟨rfl, rfl⟩
end Go.Proofs.YgcsalGreat

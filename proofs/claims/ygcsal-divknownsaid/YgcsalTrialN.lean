/-
  The law's own trial digit: the walk of law.trialByNat.
-/
import Derived.Test.YgcsalNat5
import Derived.Test.YgcsalRound2
import Derived.Great.BuildSlice
set_option linter.unusedSimpArgs false
namespace Go.Own
section
variable {P : Program} {ops : Array Oper} {Q : Exit → Act → World → Prop} {rest : List Oper} {a : Act} {w w0 : World} {X : List Nat} {L : List (Nat × Obj)}
/-- The literal Nat{1}. -/
theorem W_build1 {d : Tmp} {t e ty : TypeId} {pos : String} {after : Array Edge} (M : Mem w0 X L w) (hu : P.underlying t = some (.slice e)) (hsz : (P.info? e).map (·.size) = some 1) (hz : ((P.info? e).bind (·.zero)).isSome = true)
    (k : ∀ b w', w0.heap.size ≤ b → Kept [] w w' → Mem w0 X ((b, R8 e [1]) :: L) w' → wpList P ops Q rest (a.put (some d) (.slice (some ⟨b, 0, none⟩) 1 1)) w') :
    wpList P ops Q ({ dst := some d, op := .buildSlice t 1 #[(0, .const (.int .u8 1))], type := ty, pos := pos, after := after, guard := none } :: rest) a w := by
  have ⟨h1, h2⟩ := M.alloc (R8 e [1])
  exact wpList_buildFlat rfl t e 1 _ rfl .u8 [1] hu hsz hz rfl (by decide) (by decide) rfl (k _ _ h1 ((Mem.start w []).alloc (R8 e [1])).2.kept h2)
end
theorem one_num {w : World} {b : Nat} {t : TypeId} (h : w.heap[b]? = some (R8 t [1])) : NumV w (.slice (some ⟨b, 0, none⟩) 1 1) 1 :=
  ⟨[1], NatV.row h (by intro x hx; simp at hx; omega) (by decide), by intro x hx; simp at hx; omega, rfl⟩
end Go.Own
namespace Go.Proofs.Ygcsal
open Go.RowKit Go.Own
theorem zero5s : ((Salg.prog.info? 5).bind (·.zero)).isSome = true := by kernel_rfl

set_option maxHeartbeats 4000000 in
set_option maxRecDepth 100000 in
theorem trialByNat_any (bu bv tu tv n j : Nat) (us vs : List Nat) (high mid low top next : Nat) (w : World) (hru : w.heap[bu]? = some (R64 tu us)) (hrv : w.heap[bv]? = some (R64 tv vs))
    (hu : us.length = 9) (_hv : vs.length = 4) (hlu : Limbs us) (hlv : Limbs vs) (hn2 : 2 ≤ n) (hn4 : n ≤ 4) (hj : j + n ≤ 8) (h1 : us[j + n]? = some high) (h2 : us[j + n - 1]? = some mid) (h3 : us[j + n - 2]? = some low)
    (h4 : vs[n - 1]? = some top) (h5 : vs[n - 2]? = some next) (ht : 9223372036854775808 ≤ top) :
    Calls Salg.prog 56 #[.slice (some ⟨bu, 0, none⟩) 9 9, .slice (some ⟨bv, 0, none⟩) 4 4, .int .u8 n, .int .u8 j] w fun e w' =>
      e = .returned (.tuple #[n64 (trialQ high mid low top next), .int .u8 ((trial0 high mid top - trialQ high mid low top next : Nat) : Int)]) ∧ Kept [] w w' := by
  have M := Mem.start w []
  have l1 : high < 18446744073709551616 := by obtain ⟨h, rfl⟩ := List.getElem?_eq_some_iff.1 h1; exact hlu.get h
  have l2 : mid < 18446744073709551616 := by obtain ⟨h, rfl⟩ := List.getElem?_eq_some_iff.1 h2; exact hlu.get h
  have l3 : low < 18446744073709551616 := by obtain ⟨h, rfl⟩ := List.getElem?_eq_some_iff.1 h3; exact hlu.get h
  have l4 : top < 18446744073709551616 := by obtain ⟨h, rfl⟩ := List.getElem?_eq_some_iff.1 h4; exact hlv.get h
  have l5 : next < 18446744073709551616 := by obtain ⟨h, rfl⟩ := List.getElem?_eq_some_iff.1 h5; exact hlv.get h
  have hfx := trial_fixes (high := high) (mid := mid) (low := low) ht l5
  have hQt := trialQ_le (high := high) (mid := mid) (low := low) (top := top) (next := next) (by omega) l3
  have hR := trialR_eq (high := high) (mid := mid) (top := top)
  obtain ⟨T, hT⟩ : ∃ T, T = high * 18446744073709551616 + mid := ⟨_, rfl⟩
  have ht0 : trial0 high mid top = min (T / top) 18446744073709551615 := by rw [hT]; rfl
  have hQ : trialQ high mid low top next = min ((T * 18446744073709551616 + low) / (top * 18446744073709551616 + next)) 18446744073709551615 := by rw [hT]; rfl
  rw [← hT] at hR
  have HSTOP : Hid (∀ q R, q * top + R = T → q ≤ 18446744073709551615 → q * next ≤ R * 18446744073709551616 + low → q ≤ trialQ high mid low top next) := fun q R a1 a2 a3 => by
    rw [hQ]; exact tq_stop a1 a2 (by omega) a3
  have HGO : Hid (∀ q R, q * top + R = T → R * 18446744073709551616 + low < q * next → trialQ high mid low top next + 1 ≤ q) := fun q R a1 a2 => by
    rw [hQ]; exact tq_go a1 (by omega) a2
  have HTW : Hid (lval ((us.drop (j + n - 1)).take 2) = T) := by
    show _ = _
    obtain ⟨g1, e1⟩ := List.getElem?_eq_some_iff.1 h1
    obtain ⟨g2, e2⟩ := List.getElem?_eq_some_iff.1 h2
    rw [List.drop_eq_getElem_cons g2, List.take_succ_cons, e2]
    have e3 : us.drop (j + n - 1 + 1) = us[j + n] :: us.drop (j + n + 1) := by rw [show j + n - 1 + 1 = j + n from by omega]; exact List.drop_eq_getElem_cons g1
    rw [e3, List.take_succ_cons, List.take_zero, e1]
    simp only [lval]
    omega
  have hTl : T < 340282366920938463463374607431768211456 := by omega
  have HT0 := hid ht0
  have HRR := hid hR
  clear hQ ht0 hT hR
  have h2' : us[j + n - 2]? = some low := h3
  have HRU := hid hru
  have HRV := hid hrv
  have HLU := hid hlu
  generalize trialR high mid top = r0 at *
  generalize trialQ high mid low top next = Q at *
  generalize trial0 high mid top = t0 at *
  have ht0l : t0 ≤ 18446744073709551615 := by rw [HT0.out]; exact Nat.min_le_right _ _
  go_enter Salg.func56, Salg.ntmps56
  go_wp2_with fail
  rw [show j + n + 1 - (j + n - 1) = 2 from by omega]
  refine (limbsNat_any _ _ _ (LimbV.row hru hlu (j + n - 1) 2 _ (by omega) (by omega))).mono ?_
  rw [HTW.out]
  rintro e w1 ⟨TW, rfl, hTW, K⟩
  have HTWv := hid hTW
  replace M := M.call K
  clear hTW K
  go_wp2_with ((with_reducible apply W_loadCell); rfl; (first | with_reducible exact M.r0 | with_reducible exact M.r1 | with_reducible exact M.r2 | with_reducible exact M.r3 | with_reducible exact M.r4 | with_reducible exact M.r5 | with_reducible exact M.r6 | assumption | exact M.kept.row (by assumption) (by simp)); (first | exact get_map (by assumption) | exact get_map rfl | rfl); exact Salg.underlying23; rfl; simp only [Act.put, List.setIfInBounds_toArray, List.set_cons_zero, List.set_cons_succ])
  -- STEPS
  refine (fromU64_any top l4 _).mono ?_
  rintro e w2 ⟨TP, rfl, xHTP, K⟩
  have HTP := hid xHTP
  replace HTWv := hid (HTWv.out.kept K)
  replace M := M.call K
  clear K xHTP
  go_wp2_with fail
  refine (divMod_num _ _ _ _ _ HTWv.out HTP.out (Nat.lt_trans hTl (by decide)) (Nat.lt_trans l4 (by decide)) (by omega)).mono ?_
  rintro e w3 ⟨Q1, R1, rfl, xHQ1, xHR1, K⟩
  have HQ1 := hid xHQ1
  have HR1 := hid xHR1
  replace HTWv := hid (HTWv.out.kept K)
  replace HTP := hid (HTP.out.kept K)
  replace M := M.call K
  clear K xHQ1 xHR1
  go_wp2_with fail
  refine (pow2_int 64 (by decide) (by decide) _).mono ?_
  rintro e w4 ⟨P64, rfl, xHP64, K⟩
  have HP64 := hid xHP64
  replace HTWv := hid (HTWv.out.kept K)
  replace HTP := hid (HTP.out.kept K)
  replace HQ1 := hid (HQ1.out.kept K)
  replace M := M.call K
  clear K xHP64
  go_wp2_with ((with_reducible apply W_build1 (d := 47) M); exact Salg.underlying58; exact size5; exact zero5s; clear M; intro b1 w5 hb1 K M; simp only [Act.put, List.setIfInBounds_toArray, List.set_cons_zero, List.set_cons_succ])
  replace HTWv := hid (HTWv.out.kept K)
  replace HTP := hid (HTP.out.kept K)
  replace HQ1 := hid (HQ1.out.kept K)
  replace HP64 := hid (HP64.out.kept K)
  clear K
  refine (sub_num _ _ _ _ _ HP64.out (one_num M.r0) (by decide) (by decide)).mono ?_
  rintro e w6 ⟨MO, rfl, xHMO, K⟩
  have HMO := hid xHMO
  replace HTWv := hid (HTWv.out.kept K)
  replace HTP := hid (HTP.out.kept K)
  replace HQ1 := hid (HQ1.out.kept K)
  replace M := M.call K
  clear K xHMO
  have HMO' : Hid (NumV w6 MO 18446744073709551615) := HMO.out
  clear HMO HP64
  go_wp2_with fail
  refine (cmp_num _ _ _ _ _ HQ1.out HMO'.out).mono ?_
  rintro e w7 ⟨rfl, K⟩
  replace HTWv := hid (HTWv.out.kept K)
  replace HTP := hid (HTP.out.kept K)
  replace HQ1 := hid (HQ1.out.kept K)
  replace HMO' := hid (HMO'.out.kept K)
  replace M := M.call K
  clear K
  have HCP := hid (cmpI_pos (T / top) 18446744073709551615)
  generalize cmpI (T / top) 18446744073709551615 = cc at *
  go_upto_if 54 with fail
  go_cut [12] from 55 to 55 (fun s wx => NumV wx s t0 ∧ wx = w7)
  case first =>
    go_wp2_with fail
    · rename_i hcc
      have hT0 : t0 = 18446744073709551615 := by rw [HT0.out]; exact Nat.min_eq_right (Nat.le_of_lt (HCP.out.1 hcc))
      rw [← hT0] at HMO'
      go_meet
      case rel => exact ⟨HMO'.out, rfl⟩
    · rename_i hcc
      have hT0 : t0 = T / top := by rw [HT0.out]; exact Nat.min_eq_left (Nat.le_of_not_lt fun h => absurd (HCP.out.2 h) (by omega))
      rw [← hT0] at HQ1
      go_meet
      case rel => exact ⟨HQ1.out, rfl⟩
  case rest =>
    obtain ⟨ht, rfl⟩ := hcut
    have HTT := hid ht
    clear ht HCP HQ1 HMO' HR1
    go_wp2_with fail
    refine (mul_num _ _ _ _ _ HTT.out HTP.out (Nat.lt_of_le_of_lt ht0l (by decide)) (Nat.lt_trans l4 (by decide))).mono ?_
    rintro e w8 ⟨MP, rfl, xHMP, K⟩
    have HMP := hid xHMP
    replace HTWv := hid (HTWv.out.kept K)
    replace HTP := hid (HTP.out.kept K)
    replace HTT := hid (HTT.out.kept K)
    replace M := M.call K
    clear K xHMP
    go_wp2_with fail
    refine (sub_num _ _ _ _ _ HTWv.out HMP.out (Nat.lt_trans hTl (by decide)) (by have := HRR.out; omega)).mono ?_
    rintro e w9 ⟨RM, rfl, xHRM, K⟩
    have HRM := hid xHRM
    replace HTP := hid (HTP.out.kept K)
    replace HTT := hid (HTT.out.kept K)
    replace M := M.call K
    clear K xHRM
    have HRM' : Hid (NumV w9 RM r0) := by have h := HRM.out; rw [show T - t0 * top = r0 from by have := HRR.out; omega] at h; exact h
    clear HRM HMP HTWv
    go_wp2_with ((with_reducible apply W_loadCell); rfl; (first | with_reducible exact M.r0 | with_reducible exact M.r1 | with_reducible exact M.r2 | with_reducible exact M.r3 | with_reducible exact M.r4 | with_reducible exact M.r5 | with_reducible exact M.r6 | assumption | exact M.kept.row (by assumption) (by simp)); (first | exact get_map (by assumption) | exact get_map rfl | rfl); exact Salg.underlying23; rfl; simp only [Act.put, List.setIfInBounds_toArray, List.set_cons_zero, List.set_cons_succ])
    refine (fromU64_any low l3 _).mono ?_
    rintro e w10 ⟨TH, rfl, xHTH, K⟩
    have HTH := hid xHTH
    replace HTP := hid (HTP.out.kept K)
    replace HTT := hid (HTT.out.kept K)
    replace HRM' := hid (HRM'.out.kept K)
    replace M := M.call K
    clear K xHTH
    replace M := M.tail
    go_wp2_with fail
    go_loopw [9, 12, 17] (fun fv tv rv wr => ∃ q k R : Nat, fv = .int .u8 k ∧ NumV wr tv q ∧ NumV wr rv R ∧ NumV wr TP top ∧ NumV wr TH low ∧ q + k = t0 ∧ q * top + R = T ∧ k * top ≤ R ∧ Q ≤ q ∧ k ≤ 2 ∧ R ≤ T ∧ Mem w [] [] wr) (fun fv _ _ _ => 2 - (intOf fv).toNat)
    case atStart => exact ⟨t0, 0, r0, rfl, HTT.out, HRM'.out, HTP.out, HTH.out, by omega, HRR.out, by omega, hQt, by omega, by have := HRR.out; omega, M⟩
    case round =>
      clear M HTT HRM' HTP HTH
      obtain ⟨q, k, R, rfl, xHT, xHR, xHP, xHL, hqk, hqr, hkr, hQ, hk, hRT, M⟩ := hrel
      have HTN := hid xHT
      have HRN := hid xHR
      have HPN := hid xHP
      have HLN := hid xHL
      have HQR := hid hqr
      have HKR := hid hkr
      have HQQ := hid hQ
      have HQK := hid hqk
      have hq64 : q ≤ 18446744073709551615 := by omega
      clear xHT xHR xHP xHL hqr hkr hQ hqk
      go_wp2_with fail
      refine (pow2_int 64 (by decide) (by decide) _).mono ?_
      rintro e w11 ⟨PW, rfl, xHPW, K⟩
      have HPW := hid xHPW
      replace HTN := hid (HTN.out.kept K)
      replace HRN := hid (HRN.out.kept K)
      replace HPN := hid (HPN.out.kept K)
      replace HLN := hid (HLN.out.kept K)
      replace M := M.call K
      clear K xHPW
      go_wp2_with fail
      refine (cmp_num _ _ _ _ _ HRN.out HPW.out).mono ?_
      rintro e w12 ⟨rfl, K⟩
      replace HTN := hid (HTN.out.kept K)
      replace HRN := hid (HRN.out.kept K)
      replace HPN := hid (HPN.out.kept K)
      replace HLN := hid (HLN.out.kept K)
      replace M := M.call K
      clear K
      have HCN := hid (cmpI_neg R (2 ^ (64 : Int).toNat))
      generalize cmpI R (2 ^ (64 : Int).toNat) = cc at *
      by_cases hR64 : R < 18446744073709551616
      · have hcc : cc < 0 := HCN.out.2 hR64
        have dcc : decide (cc < (0 : Int)) = true := by simp; omega
        have hk1 : k ≤ 1 := by
          rcases Nat.lt_or_ge k 2 with h | h
          · omega
          · have h1 : 2 * top ≤ k * top := Nat.mul_le_mul_right _ h
            have h2 := HKR.out
            omega
        have HST := hid (HSTOP.out q R HQR.out hq64)
        have HG := hid (HGO.out q R HQR.out)
        have hbm : R * 18446744073709551616 < 256 ^ 200 := Nat.lt_of_le_of_lt (Nat.mul_le_mul_right _ (Nat.le_of_lt hR64)) (by decide)
        have HBM := hid hbm
        have hqn : q * next < 256 ^ 200 := Nat.lt_of_le_of_lt (Nat.mul_le_mul hq64 (Nat.le_of_lt l5)) (by decide)
        have HQN := hid hqn
        clear HCN hbm hqn HPW
        go_wp2_with fail
        refine (pow2_int 64 (by decide) (by decide) _).mono ?_
        rintro e w13 ⟨PX, rfl, xHPX, K⟩
        have HPX := hid xHPX
        replace HTN := hid (HTN.out.kept K)
        replace HRN := hid (HRN.out.kept K)
        replace HPN := hid (HPN.out.kept K)
        replace HLN := hid (HLN.out.kept K)
        replace M := M.call K
        clear K xHPX
        go_wp2_with fail
        refine (mul_num _ _ _ _ _ HRN.out HPX.out (Nat.lt_trans hR64 (by decide)) (by decide)).mono ?_
        rintro e w14 ⟨MR, rfl, xHMR, K⟩
        have HMR := hid xHMR
        replace HTN := hid (HTN.out.kept K)
        replace HRN := hid (HRN.out.kept K)
        replace HPN := hid (HPN.out.kept K)
        replace HLN := hid (HLN.out.kept K)
        replace M := M.call K
        clear K xHMR
        have HMR' : Hid (NumV w14 MR (R * 18446744073709551616)) := HMR.out
        clear HMR HPX
        go_wp2_with fail
        refine (add_num _ _ _ _ _ HMR'.out HLN.out HBM.out (Nat.lt_trans l3 (by decide))).mono ?_
        rintro e w15 ⟨HV, rfl, xHHV, K⟩
        have HHV := hid xHHV
        replace HTN := hid (HTN.out.kept K)
        replace HRN := hid (HRN.out.kept K)
        replace HPN := hid (HPN.out.kept K)
        replace HLN := hid (HLN.out.kept K)
        replace M := M.call K
        clear K xHHV
        clear HMR'
        go_wp2_with ((with_reducible apply W_loadCell); rfl; (first | with_reducible exact M.r0 | with_reducible exact M.r1 | with_reducible exact M.r2 | with_reducible exact M.r3 | with_reducible exact M.r4 | with_reducible exact M.r5 | with_reducible exact M.r6 | assumption | exact M.kept.row (by assumption) (by simp)); (first | exact get_map (by assumption) | exact get_map rfl | rfl); exact Salg.underlying23; rfl; simp only [Act.put, List.setIfInBounds_toArray, List.set_cons_zero, List.set_cons_succ])
        refine (fromU64_any next l5 _).mono ?_
        rintro e w16 ⟨NX, rfl, xHNX, K⟩
        have HNX := hid xHNX
        replace HTN := hid (HTN.out.kept K)
        replace HRN := hid (HRN.out.kept K)
        replace HPN := hid (HPN.out.kept K)
        replace HLN := hid (HLN.out.kept K)
        replace HHV := hid (HHV.out.kept K)
        replace M := M.call K
        clear K xHNX
        go_wp2_with fail
        refine (mul_num _ _ _ _ _ HTN.out HNX.out (Nat.lt_of_le_of_lt hq64 (by decide)) (Nat.lt_trans l5 (by decide))).mono ?_
        rintro e w17 ⟨TN, rfl, xHTNX, K⟩
        have HTNX := hid xHTNX
        replace HTN := hid (HTN.out.kept K)
        replace HRN := hid (HRN.out.kept K)
        replace HPN := hid (HPN.out.kept K)
        replace HLN := hid (HLN.out.kept K)
        replace HHV := hid (HHV.out.kept K)
        replace M := M.call K
        clear K xHTNX
        go_wp2_with fail
        refine (cmp_num _ _ _ _ _ HTNX.out HHV.out).mono ?_
        rintro e w18 ⟨rfl, K⟩
        replace HTN := hid (HTN.out.kept K)
        replace HRN := hid (HRN.out.kept K)
        replace HPN := hid (HPN.out.kept K)
        replace HLN := hid (HLN.out.kept K)
        replace M := M.call K
        clear K
        have HCP := hid (cmpI_pos (q * next) (R * 18446744073709551616 + low))
        clear HTNX HHV HNX
        generalize cmpI (q * next) (R * 18446744073709551616 + low) = c2 at *
        by_cases hc2 : 0 < c2
        · have dc2 : decide (c2 ≤ (0 : Int)) = false := by simp; omega
          have HGT := hid (HG.out (HCP.out.1 hc2))
          have hq1 : 1 ≤ q := by have := HGT.out; omega
          clear HCP HG HST
          go_wp2_with ((with_reducible apply W_build1 (d := 94) M); exact Salg.underlying58; exact size5; exact zero5s; clear M; intro b2 w19 hb2 K M; simp only [Act.put, List.setIfInBounds_toArray, List.set_cons_zero, List.set_cons_succ])
          replace HTN := hid (HTN.out.kept K)
          replace HRN := hid (HRN.out.kept K)
          replace HPN := hid (HPN.out.kept K)
          replace HLN := hid (HLN.out.kept K)
          clear K
          refine (sub_num _ _ _ _ _ HTN.out (one_num M.r0) (Nat.lt_of_le_of_lt hq64 (by decide)) hq1).mono ?_
          rintro e w20 ⟨T2, rfl, xHT2, K⟩
          have HT2 := hid xHT2
          replace HRN := hid (HRN.out.kept K)
          replace HPN := hid (HPN.out.kept K)
          replace HLN := hid (HLN.out.kept K)
          replace M := M.call K
          clear K xHT2
          replace M := M.tail
          go_wp2_with fail
          refine (add_num _ _ _ _ _ HRN.out HPN.out (Nat.lt_trans hR64 (by decide)) (Nat.lt_trans l4 (by decide))).mono ?_
          rintro e w21 ⟨R2, rfl, xHR2, K⟩
          have HR2 := hid xHR2
          replace HT2 := hid (HT2.out.kept K)
          replace HPN := hid (HPN.out.kept K)
          replace HLN := hid (HLN.out.kept K)
          replace M := M.call K
          clear K xHR2
          go_wp2_with fail
          go_roundw
          case rel =>
            refine ⟨q - 1, k + 1, R + top, by go_num, HT2.out, HR2.out, HPN.out, HLN.out, ?_, ?_, ?_, ?_, by omega, ?_, M⟩
            · have := HQK.out; omega
            · have := HQR.out; rw [show q = (q - 1) + 1 from by omega, Nat.add_mul, Nat.one_mul] at this; omega
            · rw [Nat.add_mul, Nat.one_mul]; have := HKR.out; omega
            · have := HGT.out; omega
            · have := HQR.out; rw [show q = (q - 1) + 1 from by omega, Nat.add_mul, Nat.one_mul] at this; omega
          case measure => simp [intOf]; omega
        · have dc2 : decide (c2 ≤ (0 : Int)) = true := by simp; omega
          have hqQ : q = Q := by
            have h1 := HST.out (Nat.le_of_not_lt fun h => hc2 (HCP.out.2 h))
            have := HQQ.out
            omega
          have hkk : k = t0 - Q := by have := HQK.out; omega
          subst hqQ
          subst hkk
          clear HCP HG HST hc2
          go_wp2_with fail
          refine (u64_num _ _ _ HTN.out (by omega)).mono ?_
          rintro e w19 ⟨rfl, rfl⟩
          go_wp2_with fail
          go_ret2
          exact ⟨rfl, M.kept⟩
      · have hcc : ¬ cc < 0 := fun h => hR64 (HCN.out.1 h)
        have dcc : decide (cc < (0 : Int)) = false := by simp; omega
        have hqQ : q = Q := by
          have h1 := HSTOP.out q R HQR.out hq64 (tq_big hq64 l5 (by omega))
          have := HQQ.out
          omega
        have hkk : k = t0 - Q := by have := HQK.out; omega
        subst hqQ
        subst hkk
        clear HCN
        go_wp2_with fail
        refine (u64_num _ _ _ HTN.out (by omega)).mono ?_
        rintro e w19 ⟨rfl, rfl⟩
        go_wp2_with fail
        go_ret2
        exact ⟨rfl, M.kept⟩
end Go.Proofs.Ygcsal

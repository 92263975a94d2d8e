/-
  The law's own check of a round: the walk of law.roundByNat.
-/
import Derived.Test.YgcsalTrialN
import Derived.Test.YgcsalQuiet
set_option linter.unusedSimpArgs false
namespace Go.Proofs.Ygcsal
open Go.RowKit Go.Own

set_option maxHeartbeats 4000000 in
set_option maxRecDepth 100000 in
theorem roundByNat_any (bo bn bv ty tn tv n j : Nat) (us now vs : List Nat) (q fx : Nat) (back : Bool) (high mid low top next : Nat) (w : World)
    (hro : w.heap[bo]? = some (R64 ty us)) (hrn : w.heap[bn]? = some (R64 tn now)) (hrv : w.heap[bv]? = some (R64 tv vs))
    (hu : us.length = 9) (hnow : now.length = 9) (hv : vs.length = 4) (hlu : Limbs us) (hln : Limbs now) (hlv : Limbs vs) (hn2 : 2 ≤ n) (hn4 : n ≤ 4) (hj : j + n ≤ 8) (h1 : us[j + n]? = some high) (h2 : us[j + n - 1]? = some mid)
    (h3 : us[j + n - 2]? = some low) (h4 : vs[n - 1]? = some top) (h5 : vs[n - 2]? = some next) (ht : 9223372036854775808 ≤ top) (hsame : ∀ i, i < j ∨ j + n < i → us[i]? = now[i]?)
    (hW : q * lval vs + lval (win now n j) = lval (win us n j)) (hlt : lval (win now n j) < lval vs) (hq : q < 18446744073709551616) (hfx : fx = trial0 high mid top - trialQ high mid low top next) (hfx2 : fx ≤ 2)
    (hqb : q + (if back then 1 else 0) = trialQ high mid low top next) :
    Calls Salg.prog 42 #[.slice (some ⟨bo, 0, none⟩) 9 9, .slice (some ⟨bn, 0, none⟩) 9 9, .slice (some ⟨bv, 0, none⟩) 4 4, .int .u8 n, .int .u8 j, .int .u64 q, .int .u8 fx, .bool back] w fun e w' =>
      e = .returned (.bool true) ∧ Kept [] w w' := by
  have M := Mem.start w []
  have HTB := hid (fun (w : World) (a : w.heap[bo]? = some (R64 ty us)) (b : w.heap[bv]? = some (R64 tv vs)) => trialByNat_any bo bv ty tv n j us vs high mid low top next w a b hu hv hlu hlv hn2 hn4 hj h1 h2 h3 h4 h5 ht)
  rw [← hfx, ← hqb] at HTB
  have hqh : q + (if back then 1 else 0) < 18446744073709551616 := by rw [hqb]; exact Nat.lt_of_le_of_lt (Nat.min_le_right _ _) (by decide)
  have hbV : lval vs < 256 ^ 32 := by
    have := lval_lt hlv
    rw [hv] at this
    exact this
  have hbW : lval (win us n j) < 256 ^ 72 := by
    have := lval_lt ((hlu.drop j).take (n + 1))
    exact Nat.lt_of_lt_of_le this (Nat.pow_le_pow_right (n := 18446744073709551616) (j := 9) (by decide) (by simp; omega))
  have HSM := hid hsame
  have HW := hid hW
  have HLT := hid hlt
  have HBV : Hid (lval vs < 256 ^ 200) := Nat.lt_trans hbV (Nat.pow_lt_pow_right (by decide) (by decide))
  have HBW : Hid (lval (win us n j) < 256 ^ 200) := Nat.lt_trans hbW (Nat.pow_lt_pow_right (by decide) (by decide))
  have HBM : Hid (q * lval vs < 256 ^ 200) := by have := HW.out; have := HBW.out; show _ < _; omega
  have HBR : Hid (lval (win now n j) < 256 ^ 200) := Nat.lt_trans hlt HBV.out
  clear hsame hW hlt hbV hbW hfx hqb h1 h2 h3 h4 h5 ht
  go_enter Salg.func42, Salg.ntmps42
  go_wp2_with fail
  refine (limbsNat_any _ _ _ (LimbV.row hrv hlv 0 4 4 (by omega) (by omega))).mono ?_
  rintro e w1 ⟨D, rfl, xHD, K⟩
  have HD := hid xHD
  replace M := M.call K
  clear K xHD
  rw [List.drop_zero, List.take_of_length_le (by omega)] at HD
  go_wp2_with fail
  rw [show j + n + 1 - j = n + 1 from by omega]
  refine (limbsNat_any _ _ _ (LimbV.row (M.kept.row hrn (by simp)) hln j (n + 1) _ (by omega) (by omega))).mono ?_
  rintro e w2 ⟨RS, rfl, xHRS, K⟩
  have HRS := hid xHRS
  replace HD := hid (HD.out.kept K)
  replace M := M.call K
  clear K xHRS
  change Hid (NumV w2 RS (lval (win now n j))) at HRS
  go_wp2_with fail
  rw [show j + n + 1 - j = n + 1 from by omega]
  refine (limbsNat_any _ _ _ (LimbV.row (M.kept.row hro (by simp)) hlu j (n + 1) _ (by omega) (by omega))).mono ?_
  rintro e w3 ⟨WH, rfl, xHWH, K⟩
  have HWH := hid xHWH
  replace HD := hid (HD.out.kept K)
  replace HRS := hid (HRS.out.kept K)
  replace M := M.call K
  clear K xHWH
  change Hid (NumV w3 WH (lval (win us n j))) at HWH
  go_wp2_with fail
  refine (fromU64_any q hq _).mono ?_
  rintro e w4 ⟨QN, rfl, xHQN, K⟩
  have HQN := hid xHQN
  replace HD := hid (HD.out.kept K)
  replace HRS := hid (HRS.out.kept K)
  replace HWH := hid (HWH.out.kept K)
  replace M := M.call K
  clear K xHQN
  go_wp2_with fail
  refine (mul_num _ _ _ _ _ HQN.out HD.out (Nat.lt_trans hq (by decide)) HBV.out).mono ?_
  rintro e w5 ⟨QD, rfl, xHQD, K⟩
  have HQD := hid xHQD
  replace HD := hid (HD.out.kept K)
  replace HRS := hid (HRS.out.kept K)
  replace HWH := hid (HWH.out.kept K)
  replace M := M.call K
  clear K xHQD
  go_wp2_with fail
  refine (add_num _ _ _ _ _ HQD.out HRS.out HBM.out HBR.out).mono ?_
  rintro e w6 ⟨SM, rfl, xHSUM, K⟩
  have HSUM := hid xHSUM
  replace HD := hid (HD.out.kept K)
  replace HRS := hid (HRS.out.kept K)
  replace HWH := hid (HWH.out.kept K)
  replace M := M.call K
  clear K xHSUM
  rw [HW.out] at HSUM
  go_wp2_with fail
  refine (cmp_num _ _ _ _ _ HSUM.out HWH.out).mono ?_
  rintro e w7 ⟨rfl, K⟩
  replace HD := hid (HD.out.kept K)
  replace HRS := hid (HRS.out.kept K)
  replace M := M.call K
  clear K
  rw [cmpI_self]
  have HCN := hid ((cmpI_neg (lval (win now n j)) (lval vs)).2 HLT.out)
  go_wp2_with fail
  refine (cmp_num _ _ _ _ _ HRS.out HD.out).mono ?_
  rintro e w8 ⟨rfl, K⟩
  replace M := M.call K
  clear K
  generalize cmpI (lval (win now n j)) (lval vs) = cc at *
  have hcc : decide ((0 : Int) ≤ cc) = false := by have := HCN.out; simp; omega
  clear HD HRS HWH HQN HQD HSUM HCN
  go_wp2_with fail
  go_loopw [59] (fun iv wr => ∃ i : Nat, i ≤ 9 ∧ iv = .int .i64 i ∧ Mem w [] [] wr) (fun iv _ => 9 - (intOf iv).toNat)
  case atStart => exact ⟨0, by omega, rfl, M⟩
  case round =>
    clear M
    obtain ⟨i, hi, rfl, M⟩ := hrel
    rcases (by omega : i = 9 ∨ (i < 9 ∧ i < j) ∨ (i < 9 ∧ j + n < i) ∨ (i < 9 ∧ ¬ i < j ∧ ¬ j + n < i)) with rfl | ⟨hi9, hij⟩ | ⟨hi9, hij⟩ | ⟨hi9, hij, hij2⟩
    · cases back with
      | false =>
        simp only [Bool.false_eq_true, if_false, Nat.add_zero] at HTB hqh
        have dfx : decide ((fx : Int) ≤ 2) = true := by simp; omega
        go_wp2_with fail
        refine (HTB.out _ (M.kept.row hro (by simp)) (M.kept.row hrv (by simp))).mono ?_
        rintro e w4 ⟨rfl, K⟩
        replace M := M.call K
        clear K HTB
        go_wp2_with fail
        go_ret
        exact ⟨by go_num, M.kept⟩
      | true =>
        simp only [if_true] at HTB hqh
        have dfx : decide ((fx : Int) ≤ 2) = true := by simp; omega
        go_wp2_with fail
        refine (HTB.out _ (M.kept.row hro (by simp)) (M.kept.row hrv (by simp))).mono ?_
        rintro e w4 ⟨rfl, K⟩
        replace M := M.call K
        clear K HTB
        go_wp2_with fail
        go_ret
        exact ⟨by go_num, M.kept⟩
    · have d1 : decide ((i : Int) < (j : Int)) = true := by simp; omega
      have hgu : us[i]? = some us[i] := List.getElem?_eq_getElem (by omega)
      have hgn : now[i]? = some us[i] := by rw [← HSM.out i (by omega)]; exact hgu
      have hro' : wr.heap[bo]? = some (R64 ty us) := M.kept.row hro (by simp)
      have hrn' : wr.heap[bn]? = some (R64 tn now) := M.kept.row hrn (by simp)
      generalize us[i] = x at *
      go_wp2_with fail
      refine S_region (by kernel_rfl) ?_
      refine V_quiet 0 23 (by kernel_rfl) (by decide) M.drew ?_
      clear M
      simp only [List.take_succ_cons, List.take_zero, List.drop_zero, List.drop_succ_cons, Nat.sub_zero, Nat.reduceSub]
      ((with_reducible apply V_run); rfl; (intro w M; go_simp; (try go_ints); (try simp only [↓IntWalk.iteOmega]); (try with_reducible rfl)); simp only [Act.put, List.setIfInBounds_toArray, List.set_cons_zero, List.set_cons_succ])
      ((with_reducible apply V_run); rfl; (intro w M; go_simp; (try go_ints); (try simp only [↓IntWalk.iteOmega]); (try with_reducible rfl)); simp only [Act.put, List.setIfInBounds_toArray, List.set_cons_zero, List.set_cons_succ])
      ((with_reducible apply V_run); rfl; (intro w M; go_simp; (try go_ints); (try simp only [↓IntWalk.iteOmega]); (try with_reducible rfl)); simp only [Act.put, List.setIfInBounds_toArray, List.set_cons_zero, List.set_cons_succ])
      ((with_reducible apply V_run); rfl; (intro w M; go_simp; (try go_ints); (try simp only [↓IntWalk.iteOmega]); (try with_reducible rfl)); simp only [Act.put, List.setIfInBounds_toArray, List.set_cons_zero, List.set_cons_succ])
      (try simp only [d1])
      ((with_reducible apply V_run); rfl; (intro w M; go_simp; (try with_reducible rfl)); simp only [Act.put, List.setIfInBounds_toArray, List.set_cons_zero, List.set_cons_succ])
      ((with_reducible apply V_no); rfl; simp only [Act.put, List.setIfInBounds_toArray, List.set_cons_zero, List.set_cons_succ])
      ((with_reducible apply V_no); rfl; simp only [Act.put, List.setIfInBounds_toArray, List.set_cons_zero, List.set_cons_succ])
      ((with_reducible apply V_no); rfl; simp only [Act.put, List.setIfInBounds_toArray, List.set_cons_zero, List.set_cons_succ])
      ((with_reducible apply V_no); rfl; simp only [Act.put, List.setIfInBounds_toArray, List.set_cons_zero, List.set_cons_succ])
      ((with_reducible apply V_no); rfl; simp only [Act.put, List.setIfInBounds_toArray, List.set_cons_zero, List.set_cons_succ])
      ((with_reducible apply V_no); rfl; simp only [Act.put, List.setIfInBounds_toArray, List.set_cons_zero, List.set_cons_succ])
      ((with_reducible apply V_run); rfl; (intro w M; go_simp; (try with_reducible rfl)); simp only [Act.put, List.setIfInBounds_toArray, List.set_cons_zero, List.set_cons_succ])
      ((with_reducible apply V_run); rfl; (intro w M; go_simp; (try with_reducible rfl)); simp only [Act.put, List.setIfInBounds_toArray, List.set_cons_zero, List.set_cons_succ])
      ((with_reducible apply V_run); rfl; (intro w M; go_simp; (try go_ints); (try simp only [↓IntWalk.iteOmega]); (try with_reducible rfl)); simp only [Act.put, List.setIfInBounds_toArray, List.set_cons_zero, List.set_cons_succ])
      ((with_reducible apply V_run); rfl; (intro w M; go_simp; (try go_ints); (try simp only [↓IntWalk.iteOmega]); (try with_reducible rfl)); simp only [Act.put, List.setIfInBounds_toArray, List.set_cons_zero, List.set_cons_succ])
      ((with_reducible apply V_run); rfl; (intro w M; go_simp; (try go_ints); (try simp only [↓IntWalk.iteOmega]); (try with_reducible rfl)); simp only [Act.put, List.setIfInBounds_toArray, List.set_cons_zero, List.set_cons_succ])
      ((with_reducible apply V_run); rfl; (intro w M; exact run_loadCell (by (first | with_reducible exact M.r0 | with_reducible exact M.r1 | with_reducible exact M.r2 | with_reducible exact M.r3 | with_reducible exact M.r4 | with_reducible exact M.r5 | with_reducible exact M.r6 | assumption | exact M.kept.row (by assumption) (by simp))) rfl (by (first | exact get_map (by assumption) | exact get_map rfl | rfl)) Salg.underlying23 rfl); simp only [Act.put, List.setIfInBounds_toArray, List.set_cons_zero, List.set_cons_succ])
      ((with_reducible apply V_run); rfl; (intro w M; go_simp; (try go_ints); (try simp only [↓IntWalk.iteOmega]); (try with_reducible rfl)); simp only [Act.put, List.setIfInBounds_toArray, List.set_cons_zero, List.set_cons_succ])
      ((with_reducible apply V_run); rfl; (intro w M; go_simp; (try go_ints); (try simp only [↓IntWalk.iteOmega]); (try with_reducible rfl)); simp only [Act.put, List.setIfInBounds_toArray, List.set_cons_zero, List.set_cons_succ])
      ((with_reducible apply V_run); rfl; (intro w M; go_simp; (try go_ints); (try simp only [↓IntWalk.iteOmega]); (try with_reducible rfl)); simp only [Act.put, List.setIfInBounds_toArray, List.set_cons_zero, List.set_cons_succ])
      ((with_reducible apply V_run); rfl; (intro w M; exact run_loadCell (by (first | with_reducible exact M.r0 | with_reducible exact M.r1 | with_reducible exact M.r2 | with_reducible exact M.r3 | with_reducible exact M.r4 | with_reducible exact M.r5 | with_reducible exact M.r6 | assumption | exact M.kept.row (by assumption) (by simp))) rfl (by (first | exact get_map (by assumption) | exact get_map rfl | rfl)) Salg.underlying23 rfl); simp only [Act.put, List.setIfInBounds_toArray, List.set_cons_zero, List.set_cons_succ])
      ((with_reducible apply V_run); rfl; (intro w M; go_simp; (try go_ints); (try simp only [↓IntWalk.iteOmega]); (try with_reducible rfl)); simp only [Act.put, List.setIfInBounds_toArray, List.set_cons_zero, List.set_cons_succ])
      ((with_reducible apply V_run); rfl; (intro w M; go_simp; (try go_ints); (try simp only [↓IntWalk.iteOmega]); (try with_reducible rfl)); simp only [Act.put, List.setIfInBounds_toArray, List.set_cons_zero, List.set_cons_succ])
      refine V_nil ?_
      intro w4 M
      refine S_done ?_
      go_wp2_with fail
      go_roundw
      case rel => exact ⟨i + 1, by omega, by go_num, M⟩
      case measure => simp [intOf]; omega
    · have d1 : decide (i < j) = false := by simp; omega
      have d2 : decide (j + n < i) = true := by simp; omega
      have d3 : decide ((j : Int) + (n : Int) < (i : Int)) = true := by simp; omega
      have hgu : us[i]? = some us[i] := List.getElem?_eq_getElem (by omega)
      have hgn : now[i]? = some us[i] := by rw [← HSM.out i (by omega)]; exact hgu
      have hro' : wr.heap[bo]? = some (R64 ty us) := M.kept.row hro (by simp)
      have hrn' : wr.heap[bn]? = some (R64 tn now) := M.kept.row hrn (by simp)
      generalize us[i] = x at *
      go_wp2_with fail
      refine S_region (by kernel_rfl) ?_
      refine V_quiet 0 23 (by kernel_rfl) (by decide) M.drew ?_
      clear M
      simp only [List.take_succ_cons, List.take_zero, List.drop_zero, List.drop_succ_cons, Nat.sub_zero, Nat.reduceSub]
      ((with_reducible apply V_run); rfl; (intro w M; go_simp; (try go_ints); (try simp only [↓IntWalk.iteOmega]); (try with_reducible rfl)); simp only [Act.put, List.setIfInBounds_toArray, List.set_cons_zero, List.set_cons_succ])
      ((with_reducible apply V_run); rfl; (intro w M; go_simp; (try go_ints); (try simp only [↓IntWalk.iteOmega]); (try with_reducible rfl)); simp only [Act.put, List.setIfInBounds_toArray, List.set_cons_zero, List.set_cons_succ])
      ((with_reducible apply V_run); rfl; (intro w M; go_simp; (try go_ints); (try simp only [↓IntWalk.iteOmega]); (try with_reducible rfl)); simp only [Act.put, List.setIfInBounds_toArray, List.set_cons_zero, List.set_cons_succ])
      ((with_reducible apply V_run); rfl; (intro w M; go_simp; (try go_ints); (try simp only [↓IntWalk.iteOmega]); (try with_reducible rfl)); simp only [Act.put, List.setIfInBounds_toArray, List.set_cons_zero, List.set_cons_succ])
      (try simp only [d1])
      ((with_reducible apply V_run); rfl; (intro w M; go_simp; (try go_ints); (try simp only [↓IntWalk.iteOmega]); (try with_reducible rfl)); simp only [Act.put, List.setIfInBounds_toArray, List.set_cons_zero, List.set_cons_succ])
      ((with_reducible apply V_run); rfl; (intro w M; go_simp; (try go_ints); (try simp only [↓IntWalk.iteOmega]); (try with_reducible rfl)); simp only [Act.put, List.setIfInBounds_toArray, List.set_cons_zero, List.set_cons_succ])
      ((with_reducible apply V_run); rfl; (intro w M; go_simp; (try go_ints); (try simp only [↓IntWalk.iteOmega]); (try with_reducible rfl)); simp only [Act.put, List.setIfInBounds_toArray, List.set_cons_zero, List.set_cons_succ])
      ((with_reducible apply V_run); rfl; (intro w M; go_simp; (try go_ints); (try simp only [↓IntWalk.iteOmega]); (try with_reducible rfl)); simp only [Act.put, List.setIfInBounds_toArray, List.set_cons_zero, List.set_cons_succ])
      ((with_reducible apply V_run); rfl; (intro w M; go_simp; (try go_ints); (try simp only [↓IntWalk.iteOmega]); (try with_reducible rfl)); simp only [Act.put, List.setIfInBounds_toArray, List.set_cons_zero, List.set_cons_succ])
      ((with_reducible apply V_run); rfl; (intro w M; go_simp; (try go_ints); (try simp only [↓IntWalk.iteOmega]); (try with_reducible rfl)); simp only [Act.put, List.setIfInBounds_toArray, List.set_cons_zero, List.set_cons_succ])
      ((with_reducible apply V_run); rfl; (intro w M; go_simp; (try go_ints); (try simp only [↓IntWalk.iteOmega]); (try with_reducible rfl)); simp only [Act.put, List.setIfInBounds_toArray, List.set_cons_zero, List.set_cons_succ])
      (try simp only [d2, d3])
      ((with_reducible apply V_run); rfl; (intro w M; go_simp; (try go_ints); (try simp only [↓IntWalk.iteOmega]); (try with_reducible rfl)); simp only [Act.put, List.setIfInBounds_toArray, List.set_cons_zero, List.set_cons_succ])
      ((with_reducible apply V_run); rfl; (intro w M; go_simp; (try go_ints); (try simp only [↓IntWalk.iteOmega]); (try with_reducible rfl)); simp only [Act.put, List.setIfInBounds_toArray, List.set_cons_zero, List.set_cons_succ])
      ((with_reducible apply V_run); rfl; (intro w M; go_simp; (try go_ints); (try simp only [↓IntWalk.iteOmega]); (try with_reducible rfl)); simp only [Act.put, List.setIfInBounds_toArray, List.set_cons_zero, List.set_cons_succ])
      ((with_reducible apply V_run); rfl; (intro w M; go_simp; (try go_ints); (try simp only [↓IntWalk.iteOmega]); (try with_reducible rfl)); simp only [Act.put, List.setIfInBounds_toArray, List.set_cons_zero, List.set_cons_succ])
      ((with_reducible apply V_run); rfl; (intro w M; go_simp; (try go_ints); (try simp only [↓IntWalk.iteOmega]); (try with_reducible rfl)); simp only [Act.put, List.setIfInBounds_toArray, List.set_cons_zero, List.set_cons_succ])
      ((with_reducible apply V_run); rfl; (intro w M; exact run_loadCell (by (first | with_reducible exact M.r0 | with_reducible exact M.r1 | with_reducible exact M.r2 | with_reducible exact M.r3 | with_reducible exact M.r4 | with_reducible exact M.r5 | with_reducible exact M.r6 | assumption | exact M.kept.row (by assumption) (by simp))) rfl (by (first | exact get_map (by assumption) | exact get_map rfl | rfl)) Salg.underlying23 rfl); simp only [Act.put, List.setIfInBounds_toArray, List.set_cons_zero, List.set_cons_succ])
      ((with_reducible apply V_run); rfl; (intro w M; go_simp; (try go_ints); (try simp only [↓IntWalk.iteOmega]); (try with_reducible rfl)); simp only [Act.put, List.setIfInBounds_toArray, List.set_cons_zero, List.set_cons_succ])
      ((with_reducible apply V_run); rfl; (intro w M; go_simp; (try go_ints); (try simp only [↓IntWalk.iteOmega]); (try with_reducible rfl)); simp only [Act.put, List.setIfInBounds_toArray, List.set_cons_zero, List.set_cons_succ])
      ((with_reducible apply V_run); rfl; (intro w M; go_simp; (try go_ints); (try simp only [↓IntWalk.iteOmega]); (try with_reducible rfl)); simp only [Act.put, List.setIfInBounds_toArray, List.set_cons_zero, List.set_cons_succ])
      ((with_reducible apply V_run); rfl; (intro w M; exact run_loadCell (by (first | with_reducible exact M.r0 | with_reducible exact M.r1 | with_reducible exact M.r2 | with_reducible exact M.r3 | with_reducible exact M.r4 | with_reducible exact M.r5 | with_reducible exact M.r6 | assumption | exact M.kept.row (by assumption) (by simp))) rfl (by (first | exact get_map (by assumption) | exact get_map rfl | rfl)) Salg.underlying23 rfl); simp only [Act.put, List.setIfInBounds_toArray, List.set_cons_zero, List.set_cons_succ])
      ((with_reducible apply V_run); rfl; (intro w M; go_simp; (try go_ints); (try simp only [↓IntWalk.iteOmega]); (try with_reducible rfl)); simp only [Act.put, List.setIfInBounds_toArray, List.set_cons_zero, List.set_cons_succ])
      ((with_reducible apply V_run); rfl; (intro w M; go_simp; (try go_ints); (try simp only [↓IntWalk.iteOmega]); (try with_reducible rfl)); simp only [Act.put, List.setIfInBounds_toArray, List.set_cons_zero, List.set_cons_succ])
      refine V_nil ?_
      intro w4 M
      refine S_done ?_
      go_wp2_with fail
      go_roundw
      case rel => exact ⟨i + 1, by omega, by go_num, M⟩
      case measure => simp [intOf]; omega
    · have d1 : decide (i < j) = false := by simp; omega
      have d2 : decide (j + n < i) = false := by simp; omega
      have d3 : decide ((j : Int) + (n : Int) < (i : Int)) = false := by simp; omega
      go_wp2_with fail
      refine S_region (by kernel_rfl) ?_
      refine V_quiet 0 23 (by kernel_rfl) (by decide) M.drew ?_
      clear M
      simp only [List.take_succ_cons, List.take_zero, List.drop_zero, List.drop_succ_cons, Nat.sub_zero, Nat.reduceSub]
      ((with_reducible apply V_run); rfl; (intro w M; go_simp; (try go_ints); (try simp only [↓IntWalk.iteOmega]); (try with_reducible rfl)); simp only [Act.put, List.setIfInBounds_toArray, List.set_cons_zero, List.set_cons_succ])
      ((with_reducible apply V_run); rfl; (intro w M; go_simp; (try go_ints); (try simp only [↓IntWalk.iteOmega]); (try with_reducible rfl)); simp only [Act.put, List.setIfInBounds_toArray, List.set_cons_zero, List.set_cons_succ])
      ((with_reducible apply V_run); rfl; (intro w M; go_simp; (try go_ints); (try simp only [↓IntWalk.iteOmega]); (try with_reducible rfl)); simp only [Act.put, List.setIfInBounds_toArray, List.set_cons_zero, List.set_cons_succ])
      ((with_reducible apply V_run); rfl; (intro w M; go_simp; (try go_ints); (try simp only [↓IntWalk.iteOmega]); (try with_reducible rfl)); simp only [Act.put, List.setIfInBounds_toArray, List.set_cons_zero, List.set_cons_succ])
      (try simp only [d1])
      ((with_reducible apply V_run); rfl; (intro w M; go_simp; (try go_ints); (try simp only [↓IntWalk.iteOmega]); (try with_reducible rfl)); simp only [Act.put, List.setIfInBounds_toArray, List.set_cons_zero, List.set_cons_succ])
      ((with_reducible apply V_run); rfl; (intro w M; go_simp; (try go_ints); (try simp only [↓IntWalk.iteOmega]); (try with_reducible rfl)); simp only [Act.put, List.setIfInBounds_toArray, List.set_cons_zero, List.set_cons_succ])
      ((with_reducible apply V_run); rfl; (intro w M; go_simp; (try go_ints); (try simp only [↓IntWalk.iteOmega]); (try with_reducible rfl)); simp only [Act.put, List.setIfInBounds_toArray, List.set_cons_zero, List.set_cons_succ])
      ((with_reducible apply V_run); rfl; (intro w M; go_simp; (try go_ints); (try simp only [↓IntWalk.iteOmega]); (try with_reducible rfl)); simp only [Act.put, List.setIfInBounds_toArray, List.set_cons_zero, List.set_cons_succ])
      ((with_reducible apply V_run); rfl; (intro w M; go_simp; (try go_ints); (try simp only [↓IntWalk.iteOmega]); (try with_reducible rfl)); simp only [Act.put, List.setIfInBounds_toArray, List.set_cons_zero, List.set_cons_succ])
      ((with_reducible apply V_run); rfl; (intro w M; go_simp; (try go_ints); (try simp only [↓IntWalk.iteOmega]); (try with_reducible rfl)); simp only [Act.put, List.setIfInBounds_toArray, List.set_cons_zero, List.set_cons_succ])
      ((with_reducible apply V_run); rfl; (intro w M; go_simp; (try go_ints); (try simp only [↓IntWalk.iteOmega]); (try with_reducible rfl)); simp only [Act.put, List.setIfInBounds_toArray, List.set_cons_zero, List.set_cons_succ])
      (try simp only [d2, d3])
      ((with_reducible apply V_run); rfl; (intro w M; go_simp; (try with_reducible rfl)); simp only [Act.put, List.setIfInBounds_toArray, List.set_cons_zero, List.set_cons_succ])
      ((with_reducible apply V_run); rfl; (intro w M; go_simp; (try with_reducible rfl)); simp only [Act.put, List.setIfInBounds_toArray, List.set_cons_zero, List.set_cons_succ])
      ((with_reducible apply V_no); rfl; simp only [Act.put, List.setIfInBounds_toArray, List.set_cons_zero, List.set_cons_succ])
      ((with_reducible apply V_no); rfl; simp only [Act.put, List.setIfInBounds_toArray, List.set_cons_zero, List.set_cons_succ])
      ((with_reducible apply V_no); rfl; simp only [Act.put, List.setIfInBounds_toArray, List.set_cons_zero, List.set_cons_succ])
      ((with_reducible apply V_no); rfl; simp only [Act.put, List.setIfInBounds_toArray, List.set_cons_zero, List.set_cons_succ])
      ((with_reducible apply V_no); rfl; simp only [Act.put, List.setIfInBounds_toArray, List.set_cons_zero, List.set_cons_succ])
      ((with_reducible apply V_no); rfl; simp only [Act.put, List.setIfInBounds_toArray, List.set_cons_zero, List.set_cons_succ])
      ((with_reducible apply V_no); rfl; simp only [Act.put, List.setIfInBounds_toArray, List.set_cons_zero, List.set_cons_succ])
      ((with_reducible apply V_no); rfl; simp only [Act.put, List.setIfInBounds_toArray, List.set_cons_zero, List.set_cons_succ])
      ((with_reducible apply V_no); rfl; simp only [Act.put, List.setIfInBounds_toArray, List.set_cons_zero, List.set_cons_succ])
      ((with_reducible apply V_run); rfl; (intro w M; go_simp; (try with_reducible rfl)); simp only [Act.put, List.setIfInBounds_toArray, List.set_cons_zero, List.set_cons_succ])
      refine V_nil ?_
      intro w4 M
      refine S_done ?_
      go_wp2_with fail
      go_roundw
      case rel => exact ⟨i + 1, by omega, by go_num, M⟩
      case measure => simp [intOf]; omega
end Go.Proofs.Ygcsal

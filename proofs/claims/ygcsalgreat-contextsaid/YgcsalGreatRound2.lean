/-
  The walks of u256: round, Round.
-/
import Derived.Test.YgcsalGreatRound
import Derived.Test.YgcsalGreatPlainH
import Derived.Test.YgcsalGreatDivMid
set_option linter.unusedSimpArgs false
namespace Go.Own
/-- The corrected trial digit of a round, how often it fell, and whether the divisor was put back. -/
def rq (ds vs : List Nat) (n : Nat) : Nat := trialQ (ds.getD n 0) (ds.getD (n - 1) 0) (ds.getD (n - 2) 0) (vs.getD (n - 1) 0) (vs.getD (n - 2) 0)
def rt (ds vs : List Nat) (n : Nat) : Nat := trial0 (ds.getD n 0) (ds.getD (n - 1) 0) (vs.getD (n - 1) 0)
def rb (ds vs : List Nat) (n : Nat) : Bool := decide (lval ds < rq ds vs n * lval (vs.take n))
end Go.Own
namespace Go.Proofs.YgcsalGreat
open Go.RowKit Go.Own

set_option maxHeartbeats 4000000 in
set_option maxRecDepth 100000 in
theorem round_any (bu bv tu tv n : Nat) (pre ds post vs : List Nat) (w : World) (hru : w.heap[bu]? = some (R64 tu (pre ++ ds ++ post))) (hrv : w.heap[bv]? = some (R64 tv vs)) (hne : bu ≠ bv)
    (hd : ds.length = n + 1) (hv : n ≤ vs.length) (hL : Limbs ds) (hLv : Limbs vs) (hn2 : 2 ≤ n) (hn : n ≤ 1000) (hpre : pre.length ≤ 1000) (ht : 9223372036854775808 ≤ vs.getD (n - 1) 0)
    (hlt : lval ds < lval (vs.take n) * 18446744073709551616) :
    Calls Salg.prog 250 #[.slice (some ⟨bu, pre.length, none⟩) (n + 1) (n + 1), .slice (some ⟨bv, 0, none⟩) n n] w fun e w' =>
      e = .returned (.tuple #[n64 (lval ds / lval (vs.take n)), .int .u8 ((rt ds vs n - rq ds vs n : Nat) : Int), .bool (rb ds vs n)]) ∧ Kept [bu] w w' ∧ w'.heap[bu]? = some (R64 tu (pre ++ nl (n + 1) (lval ds % lval (vs.take n)) ++ post)) := by
  have M : Mem w [bu] [(bv, R64 tv vs), (bu, R64 tu (pre ++ ds ++ post))] w := ((Mem.start w [bu]).add hru (by simp)).add hrv (by simp; omega)
  clear hru hrv
  have g1 : ds[n]? = some (ds.getD n 0) := by rw [getD_get (by omega)]; exact List.getElem?_eq_getElem _
  have g2 : ds[n - 1]? = some (ds.getD (n - 1) 0) := by rw [getD_get (by omega)]; exact List.getElem?_eq_getElem _
  have g3 : ds[n - 2]? = some (ds.getD (n - 2) 0) := by rw [getD_get (by omega)]; exact List.getElem?_eq_getElem _
  have g4 : vs[n - 1]? = some (vs.getD (n - 1) 0) := by rw [getD_get (by omega)]; exact List.getElem?_eq_getElem _
  have g5 : vs[n - 2]? = some (vs.getD (n - 2) 0) := by rw [getD_get (by omega)]; exact List.getElem?_eq_getElem _
  have l2 : ds.getD (n - 1) 0 < 18446744073709551616 := by rw [getD_get (by omega)]; exact hL.get _
  have l3 : ds.getD (n - 2) 0 < 18446744073709551616 := by rw [getD_get (by omega)]; exact hL.get _
  have l4 : vs.getD (n - 1) 0 < 18446744073709551616 := by rw [getD_get (by omega)]; exact hLv.get _
  have l5 : vs.getD (n - 2) 0 < 18446744073709551616 := by rw [getD_get (by omega)]; exact hLv.get _
  obtain ⟨m, rfl⟩ : ∃ m, n = m + 2 := ⟨n - 2, by omega⟩
  have het : (vs.take (m + 2)).length = m + 2 := by simp; omega
  obtain ⟨k1, k2, k3⟩ := knuth_limbs (m := m) hd het hL (hLv.take _) g1 g2 g3 (by rw [List.getElem?_take_of_lt (by omega)]; exact g4) (by rw [List.getElem?_take_of_lt (by omega)]; exact g5) ht hlt
  have hVl := lval_lt (hLv.take (m + 2))
  rw [het] at hVl
  have HQ : Hid (rq ds vs (m + 2) < 18446744073709551616) := Nat.lt_of_le_of_lt (Nat.min_le_right _ _) (by decide)
  have HTR := hid (fun w => trial_any _ _ _ _ _ k3 l2 l3 ht l4 l5 w)
  have hVpos : 0 < lval (vs.take (m + 2)) := by
    rcases Nat.eq_zero_or_pos (lval (vs.take (m + 2))) with h | h
    · rw [h] at hlt; omega
    · exact h
  change Hid (∀ w, Calls Salg.prog 259 _ w fun e w' => e = .returned (.tuple #[n64 (rq ds vs (m + 2)), .int .u8 ((rt ds vs (m + 2) - rq ds vs (m + 2) : Nat) : Int)]) ∧ Kept [] w w') at HTR
  change _ ≤ rq ds vs (m + 2) at k1
  change rq ds vs (m + 2) ≤ _ at k2
  have HRB : Hid (rb ds vs (m + 2) = decide (lval ds < rq ds vs (m + 2) * lval (vs.take (m + 2)))) := rfl
  have K1 := hid k1
  have K2 := hid k2
  have HL := hid hL
  have HLv := hid hLv
  have HVL := hid hVl
  have HVP := hid hVpos
  have f1 : (pre ++ ds ++ post)[pre.length + (m + 2)]? = some (ds.getD (m + 2) 0) := by rw [mid_get (by omega)]; exact g1
  have f2 : (pre ++ ds ++ post)[pre.length + (m + 2 - 1)]? = some (ds.getD (m + 2 - 1) 0) := by rw [mid_get (by omega)]; exact g2
  have f3 : (pre ++ ds ++ post)[pre.length + (m + 2 - 2)]? = some (ds.getD (m + 2 - 2) 0) := by rw [mid_get (by omega)]; exact g3
  clear k1 k2 hL hLv hVl hVpos hlt g1 g2 g3 l2 l3 l4 l5 k3 ht het
  generalize rt ds vs (m + 2) - rq ds vs (m + 2) = fx at *
  generalize rq ds vs (m + 2) = qh at *
  generalize rb ds vs (m + 2) = back at *
  generalize ds.getD (m + 2) 0 = high at *
  generalize ds.getD (m + 2 - 1) 0 = mid at *
  generalize ds.getD (m + 2 - 2) 0 = low at *
  generalize vs.getD (m + 2 - 1) 0 = top at *
  generalize vs.getD (m + 2 - 2) 0 = next at *
  go_enter Salg.func250, Salg.ntmps250
  go_wp2_with fail
  refine S_region (by kernel_rfl) ?_
  refine S_quiet 0 30 (by kernel_rfl) (by decide) M.drew ?_
  clear M
  simp only [List.take_succ_cons, List.take_zero, List.drop_zero, List.drop_succ_cons, Nat.sub_zero, Nat.reduceSub]
  ((with_reducible apply Q_run); rfl; (intro w M; go_simp; (try go_ints); (try simp only [↓IntWalk.iteOmega]); (try with_reducible rfl)); simp only [Act.put, List.setIfInBounds_toArray, List.set_cons_zero, List.set_cons_succ])
  ((with_reducible apply Q_run); rfl; (intro w M; go_simp; (try go_ints); (try simp only [↓IntWalk.iteOmega]); (try with_reducible rfl)); simp only [Act.put, List.setIfInBounds_toArray, List.set_cons_zero, List.set_cons_succ])
  ((with_reducible apply Q_run); rfl; (intro w M; go_simp; (try go_ints); (try simp only [↓IntWalk.iteOmega]); (try with_reducible rfl)); simp only [Act.put, List.setIfInBounds_toArray, List.set_cons_zero, List.set_cons_succ])
  ((with_reducible apply Q_run); rfl; (intro w M; exact run_loadCell (by (first | with_reducible exact M.r0 | with_reducible exact M.r1 | with_reducible exact M.r2 | with_reducible exact M.r3 | with_reducible exact M.r4 | with_reducible exact M.r5 | with_reducible exact M.r6 | assumption | exact M.kept.row (by assumption) (by simp))) rfl (by (first | exact get_map (by assumption) | exact get_map rfl | rfl)) Salg.underlying23 rfl); simp only [Act.put, List.setIfInBounds_toArray, List.set_cons_zero, List.set_cons_succ])
  ((with_reducible apply Q_run); rfl; (intro w M; go_simp; (try go_ints); (try simp only [↓IntWalk.iteOmega]); (try with_reducible rfl)); simp only [Act.put, List.setIfInBounds_toArray, List.set_cons_zero, List.set_cons_succ])
  ((with_reducible apply Q_run); rfl; (intro w M; go_simp; (try go_ints); (try simp only [↓IntWalk.iteOmega]); (try with_reducible rfl)); simp only [Act.put, List.setIfInBounds_toArray, List.set_cons_zero, List.set_cons_succ])
  ((with_reducible apply Q_run); rfl; (intro w M; go_simp; (try go_ints); (try simp only [↓IntWalk.iteOmega]); (try with_reducible rfl)); simp only [Act.put, List.setIfInBounds_toArray, List.set_cons_zero, List.set_cons_succ])
  ((with_reducible apply Q_run); rfl; (intro w M; go_simp; (try go_ints); (try simp only [↓IntWalk.iteOmega]); (try with_reducible rfl)); simp only [Act.put, List.setIfInBounds_toArray, List.set_cons_zero, List.set_cons_succ])
  ((with_reducible apply Q_run); rfl; (intro w M; exact run_loadCell (by (first | with_reducible exact M.r0 | with_reducible exact M.r1 | with_reducible exact M.r2 | with_reducible exact M.r3 | with_reducible exact M.r4 | with_reducible exact M.r5 | with_reducible exact M.r6 | assumption | exact M.kept.row (by assumption) (by simp))) rfl (by (first | exact get_map (by assumption) | exact get_map rfl | rfl)) Salg.underlying23 rfl); simp only [Act.put, List.setIfInBounds_toArray, List.set_cons_zero, List.set_cons_succ])
  ((with_reducible apply Q_run); rfl; (intro w M; go_simp; (try go_ints); (try simp only [↓IntWalk.iteOmega]); (try with_reducible rfl)); simp only [Act.put, List.setIfInBounds_toArray, List.set_cons_zero, List.set_cons_succ])
  ((with_reducible apply Q_run); rfl; (intro w M; go_simp; (try go_ints); (try simp only [↓IntWalk.iteOmega]); (try with_reducible rfl)); simp only [Act.put, List.setIfInBounds_toArray, List.set_cons_zero, List.set_cons_succ])
  ((with_reducible apply Q_run); rfl; (intro w M; go_simp; (try go_ints); (try simp only [↓IntWalk.iteOmega]); (try with_reducible rfl)); simp only [Act.put, List.setIfInBounds_toArray, List.set_cons_zero, List.set_cons_succ])
  ((with_reducible apply Q_run); rfl; (intro w M; go_simp; (try go_ints); (try simp only [↓IntWalk.iteOmega]); (try with_reducible rfl)); simp only [Act.put, List.setIfInBounds_toArray, List.set_cons_zero, List.set_cons_succ])
  ((with_reducible apply Q_run); rfl; (intro w M; exact run_loadCell (by (first | with_reducible exact M.r0 | with_reducible exact M.r1 | with_reducible exact M.r2 | with_reducible exact M.r3 | with_reducible exact M.r4 | with_reducible exact M.r5 | with_reducible exact M.r6 | assumption | exact M.kept.row (by assumption) (by simp))) rfl (by (first | exact get_map (by assumption) | exact get_map rfl | rfl)) Salg.underlying23 rfl); simp only [Act.put, List.setIfInBounds_toArray, List.set_cons_zero, List.set_cons_succ])
  ((with_reducible apply Q_run); rfl; (intro w M; go_simp; (try go_ints); (try simp only [↓IntWalk.iteOmega]); (try with_reducible rfl)); simp only [Act.put, List.setIfInBounds_toArray, List.set_cons_zero, List.set_cons_succ])
  ((with_reducible apply Q_run); rfl; (intro w M; go_simp; (try go_ints); (try simp only [↓IntWalk.iteOmega]); (try with_reducible rfl)); simp only [Act.put, List.setIfInBounds_toArray, List.set_cons_zero, List.set_cons_succ])
  ((with_reducible apply Q_run); rfl; (intro w M; go_simp; (try go_ints); (try simp only [↓IntWalk.iteOmega]); (try with_reducible rfl)); simp only [Act.put, List.setIfInBounds_toArray, List.set_cons_zero, List.set_cons_succ])
  ((with_reducible apply Q_run); rfl; (intro w M; go_simp; (try go_ints); (try simp only [↓IntWalk.iteOmega]); (try with_reducible rfl)); simp only [Act.put, List.setIfInBounds_toArray, List.set_cons_zero, List.set_cons_succ])
  ((with_reducible apply Q_run); rfl; (intro w M; exact run_loadCell (by (first | with_reducible exact M.r0 | with_reducible exact M.r1 | with_reducible exact M.r2 | with_reducible exact M.r3 | with_reducible exact M.r4 | with_reducible exact M.r5 | with_reducible exact M.r6 | assumption | exact M.kept.row (by assumption) (by simp))) rfl (by (first | exact get_map (by assumption) | exact get_map rfl | rfl)) Salg.underlying23 rfl); simp only [Act.put, List.setIfInBounds_toArray, List.set_cons_zero, List.set_cons_succ])
  ((with_reducible apply Q_run); rfl; (intro w M; go_simp; (try go_ints); (try simp only [↓IntWalk.iteOmega]); (try with_reducible rfl)); simp only [Act.put, List.setIfInBounds_toArray, List.set_cons_zero, List.set_cons_succ])
  ((with_reducible apply Q_run); rfl; (intro w M; go_simp; (try go_ints); (try simp only [↓IntWalk.iteOmega]); (try with_reducible rfl)); simp only [Act.put, List.setIfInBounds_toArray, List.set_cons_zero, List.set_cons_succ])
  ((with_reducible apply Q_run); rfl; (intro w M; go_simp; (try go_ints); (try simp only [↓IntWalk.iteOmega]); (try with_reducible rfl)); simp only [Act.put, List.setIfInBounds_toArray, List.set_cons_zero, List.set_cons_succ])
  ((with_reducible apply Q_run); rfl; (intro w M; go_simp; (try go_ints); (try simp only [↓IntWalk.iteOmega]); (try with_reducible rfl)); simp only [Act.put, List.setIfInBounds_toArray, List.set_cons_zero, List.set_cons_succ])
  ((with_reducible apply Q_run); rfl; (intro w M; exact run_loadCell (by (first | with_reducible exact M.r0 | with_reducible exact M.r1 | with_reducible exact M.r2 | with_reducible exact M.r3 | with_reducible exact M.r4 | with_reducible exact M.r5 | with_reducible exact M.r6 | assumption | exact M.kept.row (by assumption) (by simp))) rfl (by (first | exact get_map (by assumption) | exact get_map rfl | rfl)) Salg.underlying23 rfl); simp only [Act.put, List.setIfInBounds_toArray, List.set_cons_zero, List.set_cons_succ])
  refine Q_call rfl Salg.func259 (by kernel_rfl) (by kernel_rfl) (args := [n64 high, n64 mid, n64 low, n64 top, n64 next]) rfl (fun w M => HTR.out w) ?_
  simp only [Act.put, List.setIfInBounds_toArray, List.set_cons_zero, List.set_cons_succ]
  ((with_reducible apply Q_run); rfl; (intro w M; go_simp; (try go_ints); (try simp only [↓IntWalk.iteOmega]); (try with_reducible rfl)); simp only [Act.put, List.setIfInBounds_toArray, List.set_cons_zero, List.set_cons_succ])
  ((with_reducible apply Q_run); rfl; (intro w M; go_simp; (try go_ints); (try simp only [↓IntWalk.iteOmega]); (try with_reducible rfl)); simp only [Act.put, List.setIfInBounds_toArray, List.set_cons_zero, List.set_cons_succ])
  ((with_reducible apply Q_run); rfl; (intro w M; go_simp; (try go_ints); (try simp only [↓IntWalk.iteOmega]); (try with_reducible rfl)); simp only [Act.put, List.setIfInBounds_toArray, List.set_cons_zero, List.set_cons_succ])
  ((with_reducible apply Q_run); rfl; (intro w M; go_simp; (try go_ints); (try simp only [↓IntWalk.iteOmega]); (try with_reducible rfl)); simp only [Act.put, List.setIfInBounds_toArray, List.set_cons_zero, List.set_cons_succ])
  ((with_reducible apply Q_run); rfl; (intro w M; go_simp; (try go_ints); (try simp only [↓IntWalk.iteOmega]); (try with_reducible rfl)); simp only [Act.put, List.setIfInBounds_toArray, List.set_cons_zero, List.set_cons_succ])
  refine Q_nil ?_
  intro w4 M
  refine S_done ?_
  go_wp2_with fail
  refine (takeTimes_any bu bv tu tv (m + 2) qh pre ds post vs w4 M.r1 M.r0 hne hd hv HL.out HLv.out HQ.out hn hpre).mono ?_
  rintro e w5 ⟨b, ds1, hb, rfl, hd1, hL1, hv1, K, hrow⟩
  have HV1 := hid hv1
  have HL1 := hid hL1
  replace M := Mem.callPut (L1 := [(bv, R64 tv vs)]) M (Or.inl (by simp)) K hrow
  rw [List.singleton_append] at M
  clear K hrow hv1 hL1
  have hb01 : b = 0 ∨ b = 1 := by omega
  rcases hb01 with rfl | rfl
  · have hbz : ((0 : Nat) != 0) = false := rfl
    have h1 := HV1.out
    rw [Nat.mul_zero, Nat.add_zero] at h1
    obtain ⟨e1, e2⟩ := quo_of HVP.out K1.out h1
    have hbk : back = false := by rw [HRB.out]; simp; omega
    subst hbk
    have HE2 := hid (eq_nl HL1.out hd1 e2)
    have HE1 := hid e1
    clear h1 e1 e2 HRB
    go_wp2_with fail
    go_ret3
    exact ⟨by rw [← HE1.out]; rfl, M.kept, by rw [← HE2.out]; exact M.r1⟩
  · have hbz : ((1 : Nat) != 0) = true := rfl
    have h1 := HV1.out
    rw [Nat.mul_one] at h1
    have hl1 := lval_lt HL1.out
    rw [hd1] at hl1
    obtain ⟨e1, e2, e3⟩ := back_of HVP.out (Nat.le_of_lt (Nat.lt_of_lt_of_le HVL.out (Nat.pow_le_pow_right (by decide) (by omega)))) K1.out K2.out hl1 h1
    have hbk : back = true := by rw [HRB.out]; simp; omega
    subst hbk
    have HE1 := hid e1
    have HE2 := hid e2
    clear h1 hl1 e1 e2 e3 HRB
    have hq1 : 1 ≤ qh := by rw [HE1.out]; exact Nat.le_add_left _ _
    have hq2 : qh < 18446744073709551616 := HQ.out
    go_wp2_with fail
    refine (putBack_any bu bv tu tv (m + 2) pre ds1 post vs w5 M.r1 M.r0 hne hd1 hv HL1.out HLv.out hn hpre).mono ?_
    rintro e w6 ⟨v, ds2, rfl, hd2, hL2, hv2, K, hrow⟩
    have HE3 := hid (eq_nl hL2 hd2 (hv2.trans HE2.out))
    replace M := Mem.callPut (L1 := [(bv, R64 tv vs)]) M (Or.inl (by simp)) K hrow
    rw [List.singleton_append] at M
    clear K hrow hv2 hL2
    go_wp2_with fail
    go_ret3
    exact ⟨by rw [show lval ds / lval (vs.take (m + 2)) = qh - 1 from by rw [HE1.out]; rfl]; go_num, M.kept, by rw [← HE3.out]; exact M.r1⟩
-- ROUND
end Go.Proofs.YgcsalGreat
namespace Go.Own
/-- The limbs on which a round at place j works. -/
def win (us : List Nat) (n j : Nat) : List Nat := (us.drop j).take (n + 1)
/-- The limbs behind the round. -/
def roundU (us vs : List Nat) (n j : Nat) : List Nat := us.take j ++ nl (n + 1) (lval (win us n j) % lval (vs.take n)) ++ us.drop (j + n + 1)
theorem win_split {us : List Nat} {n j : Nat} : us.take j ++ win us n j ++ us.drop (j + n + 1) = us := by
  unfold win
  rw [List.append_assoc, show j + n + 1 = j + (n + 1) from by omega, ← List.drop_drop, List.take_append_drop, List.take_append_drop]
theorem mid_facts {us vs : List Nat} {n j : Nat} (hu : us.length = 9) (hv : vs.length = 4) (hlu : Limbs us) (hlv : Limbs vs) (h : midB us vs n j = true) :
    2 ≤ n ∧ n ≤ 4 ∧ j + n ≤ 8 ∧ 9223372036854775808 ≤ vs.getD (n - 1) 0 ∧ lval (vs.take n) = lval vs ∧ lval (us.drop (j + n + 1)) = 0 ∧ lval (win us n j) < lval (vs.take n) * 18446744073709551616 ∧ lval (us.drop j) = lval (win us n j) := by
  simp only [midB, decide_eq_true_eq] at h
  obtain ⟨h1, h2, h3, h4, h5, h6⟩ := h
  rw [← pow64] at h4
  have e1 := lval_split (xs := vs) (k := n) (by omega)
  have hz : lval (vs.drop n) = 0 := by
    rcases Nat.eq_zero_or_pos (lval (vs.drop n)) with h | h
    · exact h
    · have : 18446744073709551616 ^ n * 1 ≤ 18446744073709551616 ^ n * lval (vs.drop n) := Nat.mul_le_mul_left _ h
      omega
  rw [hz, Nat.mul_zero, Nat.add_zero] at e1
  have ht := (top_half (vs := vs) (n := n) hlv (by omega) (by omega)).1 (by rw [← e1]; exact h5)
  have e2 := lval_split (xs := us.drop (j + 1)) (k := n) (by simp; omega)
  have hz2 : lval ((us.drop (j + 1)).drop n) = 0 := by
    rcases Nat.eq_zero_or_pos (lval ((us.drop (j + 1)).drop n)) with h | h
    · exact h
    · have : 18446744073709551616 ^ n * 1 ≤ 18446744073709551616 ^ n * lval ((us.drop (j + 1)).drop n) := Nat.mul_le_mul_left _ h
      omega
  simp only [hz2, Nat.mul_zero, Nat.add_zero] at e2
  have hj : j < us.length := by omega
  have e3 : win us n j = us[j] :: (us.drop (j + 1)).take n := by
    unfold win; rw [List.drop_eq_getElem_cons hj, List.take_succ_cons]
  have hz3 : lval (us.drop (j + n + 1)) = 0 := by rw [show j + n + 1 = j + 1 + n from by omega, ← List.drop_drop]; exact hz2
  refine ⟨h1, h2, h3, ht, e1.symm, hz3, ?_, ?_⟩
  · rw [e3, lval, ← e1, ← e2]
    have := hlu.get hj
    have h7 : (lval (us.drop (j + 1)) + 1) * 18446744073709551616 ≤ lval vs * 18446744073709551616 := Nat.mul_le_mul_right _ h6
    omega
  · rw [lval_drop hj, e3, lval, ← e2]
end Go.Own
namespace Go.Proofs.YgcsalGreat
open Go.RowKit Go.Own

set_option maxHeartbeats 4000000 in
set_option maxRecDepth 100000 in
theorem Round_no (bu bv tu tv : Nat) (us vs : List Nat) (n j : Nat) (w : World) (hru : w.heap[bu]? = some (R64 tu us)) (hrv : w.heap[bv]? = some (R64 tv vs)) (hu : us.length = 9) (hv : vs.length = 4)
    (hlu : Limbs us) (hlv : Limbs vs) (hn : n < 256) (hm : midB us vs n j = false) :
    Calls Salg.prog 233 #[.pointer (some ⟨bu, 0, none⟩), .pointer (some ⟨bv, 0, none⟩), .int .u8 n, .int .u8 j] w fun e w' =>
      e = .returned (.tuple #[n64 0, .int .u8 0, .bool false]) ∧ Kept [] w w' := by
  have HD := hid (divMid_any bu bv tu tv us vs n j w hru hrv hu hv hlu hlv hn)
  rw [hm] at HD
  clear hm
  go_enter Salg.func233, Salg.ntmps233
  go_wp2_with fail
  refine HD.out.mono ?_
  rintro e w1 ⟨rfl, K⟩
  go_wp2_with fail
  go_ret3
  exact ⟨rfl, K⟩

set_option maxHeartbeats 4000000 in
set_option maxRecDepth 100000 in
theorem Round_any (bu bv tu tv : Nat) (us vs : List Nat) (n j : Nat) (w : World) (hru : w.heap[bu]? = some (R64 tu us)) (hrv : w.heap[bv]? = some (R64 tv vs)) (hne : bu ≠ bv) (hu : us.length = 9) (hv : vs.length = 4)
    (hlu : Limbs us) (hlv : Limbs vs) (hm : midB us vs n j = true) :
    Calls Salg.prog 233 #[.pointer (some ⟨bu, 0, none⟩), .pointer (some ⟨bv, 0, none⟩), .int .u8 n, .int .u8 j] w fun e w' =>
      e = .returned (.tuple #[n64 (lval (win us n j) / lval (vs.take n)), .int .u8 ((rt (win us n j) vs n - rq (win us n j) vs n : Nat) : Int), .bool (rb (win us n j) vs n)]) ∧ Kept [bu] w w' ∧ w'.heap[bu]? = some (R64 tu (roundU us vs n j)) := by
  obtain ⟨a1, a2, a3, a4, a5, a6, a7, a8⟩ := mid_facts hu hv hlu hlv hm
  have M : Mem w [bu] [(bv, R64 tv vs), (bu, R64 tu us)] w := ((Mem.start w [bu]).add hru (by simp)).add hrv (by simp; omega)
  have HD := hid (divMid_any bu bv tu tv us vs n j w hru hrv hu hv hlu hlv (by omega))
  rw [hm] at HD
  have hwl : (win us n j).length = n + 1 := by simp [win]; omega
  have hpl : (us.take j).length = j := by simp; omega
  have HRD := hid fun (w : World) (h1 : w.heap[bu]? = some (R64 tu us)) (h2 : w.heap[bv]? = some (R64 tv vs)) =>
    round_any bu bv tu tv n (us.take j) (win us n j) (us.drop (j + n + 1)) vs w (by rw [win_split]; exact h1) h2 hne hwl (by omega) ((hlu.drop _).take _) hlv a1 (by omega) (by omega) a4 a7
  rw [hpl] at HRD
  change Hid (∀ w : World, w.heap[bu]? = some (R64 tu us) → w.heap[bv]? = some (R64 tv vs) → Calls Salg.prog 250 _ w fun e w' => _ ∧ _ ∧ w'.heap[bu]? = some (R64 tu (roundU us vs n j))) at HRD
  clear hm a4 a5 a6 a7 a8 hru hrv hlu hlv hwl hpl
  generalize roundU us vs n j = us' at *
  generalize lval (win us n j) / lval (vs.take n) = q at *
  generalize rt (win us n j) vs n - rq (win us n j) vs n = fx at *
  generalize rb (win us n j) vs n = back at *
  go_enter Salg.func233, Salg.ntmps233
  go_wp2_with fail
  refine HD.out.mono ?_
  rintro e w1 ⟨rfl, K⟩
  replace M := M.call K
  clear K HD
  go_wp2_with fail
  refine S_region (by kernel_rfl) ?_
  refine S_quiet 0 17 (by kernel_rfl) (by decide) M.drew ?_
  clear M
  simp only [List.take_succ_cons, List.take_zero, List.drop_zero, List.drop_succ_cons, Nat.sub_zero, Nat.reduceSub]
  ((with_reducible apply Q_run); rfl; (intro w M; go_simp; (try go_ints); (try simp only [↓IntWalk.iteOmega]); (try with_reducible rfl)); simp only [Act.put, List.setIfInBounds_toArray, List.set_cons_zero, List.set_cons_succ])
  ((with_reducible apply Q_run); rfl; (intro w M; go_simp; (try go_ints); (try simp only [↓IntWalk.iteOmega]); (try with_reducible rfl)); simp only [Act.put, List.setIfInBounds_toArray, List.set_cons_zero, List.set_cons_succ])
  ((with_reducible apply Q_run); rfl; (intro w M; go_simp; (try go_ints); (try simp only [↓IntWalk.iteOmega]); (try with_reducible rfl)); simp only [Act.put, List.setIfInBounds_toArray, List.set_cons_zero, List.set_cons_succ])
  ((with_reducible apply Q_run); rfl; (intro w M; go_simp; (try go_ints); (try simp only [↓IntWalk.iteOmega]); (try with_reducible rfl)); simp only [Act.put, List.setIfInBounds_toArray, List.set_cons_zero, List.set_cons_succ])
  ((with_reducible apply Q_run); rfl; (intro w M; go_simp; (try go_ints); (try simp only [↓IntWalk.iteOmega]); (try with_reducible rfl)); simp only [Act.put, List.setIfInBounds_toArray, List.set_cons_zero, List.set_cons_succ])
  ((with_reducible apply Q_run); rfl; (intro w M; go_simp; (try go_ints); (try simp only [↓IntWalk.iteOmega]); (try with_reducible rfl)); simp only [Act.put, List.setIfInBounds_toArray, List.set_cons_zero, List.set_cons_succ])
  ((with_reducible apply Q_run); rfl; (intro w M; go_simp; (try go_ints); (try simp only [↓IntWalk.iteOmega]); (try with_reducible rfl)); simp only [Act.put, List.setIfInBounds_toArray, List.set_cons_zero, List.set_cons_succ])
  ((with_reducible apply Q_run); rfl; (intro w M; go_simp; (try go_ints); (try simp only [↓IntWalk.iteOmega]); (try with_reducible rfl)); simp only [Act.put, List.setIfInBounds_toArray, List.set_cons_zero, List.set_cons_succ])
  ((with_reducible apply Q_run); rfl; (intro w M; go_simp; (try go_ints); (try simp only [↓IntWalk.iteOmega]); (try with_reducible rfl)); simp only [Act.put, List.setIfInBounds_toArray, List.set_cons_zero, List.set_cons_succ])
  ((with_reducible apply Q_run); rfl; (intro w M; go_simp; (try go_ints); (try simp only [↓IntWalk.iteOmega]); (try with_reducible rfl)); simp only [Act.put, List.setIfInBounds_toArray, List.set_cons_zero, List.set_cons_succ])
  ((with_reducible apply Q_run); rfl; (intro w M; go_simp; (try go_ints); (try simp only [↓IntWalk.iteOmega]); (try with_reducible rfl)); simp only [Act.put, List.setIfInBounds_toArray, List.set_cons_zero, List.set_cons_succ])
  ((with_reducible apply Q_run); rfl; (intro w M; exact run_sliceArr (l := j) (h := j + n + 1) (m := j + n + 1) rfl Salg.underlying276 size23 (by (first | exact Or.inl ⟨rfl, rfl⟩ | exact Or.inr ⟨_, _, _, rfl, rfl, by omega⟩)) (by (first | exact Or.inl ⟨rfl, rfl⟩ | exact Or.inr ⟨_, _, _, rfl, rfl, by omega⟩)) (by (first | exact Or.inl ⟨rfl, rfl⟩ | exact Or.inr ⟨_, _, _, rfl, rfl, by omega⟩)) (by first | exact Or.inl rfl | exact Or.inr rfl) (by omega) (by omega) (by omega) (by omega)); (try simp only [Nat.zero_add, Nat.sub_zero]); simp only [Act.put, List.setIfInBounds_toArray, List.set_cons_zero, List.set_cons_succ])
  simp only [show j + n + 1 - j = n + 1 from by omega]
  ((with_reducible apply Q_run); rfl; (intro w M; go_simp; (try go_ints); (try simp only [↓IntWalk.iteOmega]); (try with_reducible rfl)); simp only [Act.put, List.setIfInBounds_toArray, List.set_cons_zero, List.set_cons_succ])
  ((with_reducible apply Q_run); rfl; (intro w M; go_simp; (try go_ints); (try simp only [↓IntWalk.iteOmega]); (try with_reducible rfl)); simp only [Act.put, List.setIfInBounds_toArray, List.set_cons_zero, List.set_cons_succ])
  ((with_reducible apply Q_run); rfl; (intro w M; go_simp; (try go_ints); (try simp only [↓IntWalk.iteOmega]); (try with_reducible rfl)); simp only [Act.put, List.setIfInBounds_toArray, List.set_cons_zero, List.set_cons_succ])
  ((with_reducible apply Q_run); rfl; (intro w M; go_simp; (try go_ints); (try simp only [↓IntWalk.iteOmega]); (try with_reducible rfl)); simp only [Act.put, List.setIfInBounds_toArray, List.set_cons_zero, List.set_cons_succ])
  ((with_reducible apply Q_run); rfl; (intro w M; exact run_sliceArr (l := 0) (h := n) (m := n) rfl Salg.underlying25 size23 (by (first | exact Or.inl ⟨rfl, rfl⟩ | exact Or.inr ⟨_, _, _, rfl, rfl, by omega⟩)) (by (first | exact Or.inl ⟨rfl, rfl⟩ | exact Or.inr ⟨_, _, _, rfl, rfl, by omega⟩)) (by (first | exact Or.inl ⟨rfl, rfl⟩ | exact Or.inr ⟨_, _, _, rfl, rfl, by omega⟩)) (by first | exact Or.inl rfl | exact Or.inr rfl) (by omega) (by omega) (by omega) (by omega)); (try simp only [Nat.zero_add, Nat.sub_zero]); simp only [Act.put, List.setIfInBounds_toArray, List.set_cons_zero, List.set_cons_succ])
  refine Q_nil ?_
  intro w2 M
  refine S_seg 17 18 (by kernel_rfl) (by decide) ?_
  simp only [List.take_succ_cons, List.take_zero, List.drop_zero, List.drop_succ_cons, Nat.sub_zero, Nat.reduceSub]
  go_wp2_with (go_at_call 250; refine (HRD.out _ M.r1 M.r0).mono ?_; rintro e w3 ⟨rfl, K, hr⟩; replace M := Mem.callPut (L1 := [(bv, R64 tv vs)]) M (Or.inl (by simp)) K hr; clear K hr)
  rw [List.singleton_append] at M
  refine S_quiet 18 24 (by kernel_rfl) (by decide) M ?_
  clear M
  simp only [List.take_succ_cons, List.take_zero, List.drop_zero, List.drop_succ_cons, Nat.sub_zero, Nat.reduceSub]
  ((with_reducible apply Q_run); rfl; (intro w M; go_simp; (try go_ints); (try simp only [↓IntWalk.iteOmega]); (try with_reducible rfl)); simp only [Act.put, List.setIfInBounds_toArray, List.set_cons_zero, List.set_cons_succ])
  ((with_reducible apply Q_run); rfl; (intro w M; go_simp; (try go_ints); (try simp only [↓IntWalk.iteOmega]); (try with_reducible rfl)); simp only [Act.put, List.setIfInBounds_toArray, List.set_cons_zero, List.set_cons_succ])
  ((with_reducible apply Q_run); rfl; (intro w M; go_simp; (try go_ints); (try simp only [↓IntWalk.iteOmega]); (try with_reducible rfl)); simp only [Act.put, List.setIfInBounds_toArray, List.set_cons_zero, List.set_cons_succ])
  ((with_reducible apply Q_run); rfl; (intro w M; go_simp; (try go_ints); (try simp only [↓IntWalk.iteOmega]); (try with_reducible rfl)); simp only [Act.put, List.setIfInBounds_toArray, List.set_cons_zero, List.set_cons_succ])
  ((with_reducible apply Q_run); rfl; (intro w M; go_simp; (try go_ints); (try simp only [↓IntWalk.iteOmega]); (try with_reducible rfl)); simp only [Act.put, List.setIfInBounds_toArray, List.set_cons_zero, List.set_cons_succ])
  ((with_reducible apply Q_run); rfl; (intro w M; go_simp; (try go_ints); (try simp only [↓IntWalk.iteOmega]); (try with_reducible rfl)); simp only [Act.put, List.setIfInBounds_toArray, List.set_cons_zero, List.set_cons_succ])
  refine Q_nil ?_
  intro w4 M
  refine S_done ?_
  go_wp2_with fail
  go_ret3
  exact ⟨rfl, M.kept, M.r1⟩
end Go.Proofs.YgcsalGreat

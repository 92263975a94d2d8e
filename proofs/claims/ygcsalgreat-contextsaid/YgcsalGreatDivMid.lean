/-
  The walks of u256: Limbs, midHolds, DivMid.
-/
import Derived.Test.YgcsalGreatNat2
import Derived.Test.YgcsalGreatPlainC
set_option linter.unusedSimpArgs false
namespace Go.Proofs.YgcsalGreat
open Go.RowKit Go.Own

set_option maxHeartbeats 1000000 in
set_option maxRecDepth 100000 in
theorem limbs_any (vs : List Nat) (w : World) (hn : vs.length = 4) :
    Calls Salg.prog 79 #[A64 vs] w fun e w' => e = .returned (.int .u8 (tl vs 4 : Nat)) ∧ Kept [] w w' := by
  have M := Mem.start w []
  go_enter Salg.func79, Salg.ntmps79
  go_wp2_with ((with_reducible apply L_box M); rfl; clear M; intro b1 w1 hb1 M; simp only [Act.put, List.setIfInBounds_toArray, List.set_cons_zero, List.set_cons_succ])
  go_loop [3] (fun i => ∃ k : Nat, k ≤ 4 ∧ i = .int .u8 k ∧ tl vs k = tl vs 4) (fun i => (intOf i).toNat)
  case atStart => exact ⟨4, by omega, rfl, rfl⟩
  case round =>
    obtain ⟨k, hk, rfl, ht⟩ := hrel
    have HT := hid ht
    clear ht
    match k, hk, HT with
    | 0, hk, HT =>
      go_wp2_with fail
      go_ret
      exact ⟨ret_int (by rw [← HT.out]; rfl), M.kept⟩
    | k + 1, hk, HT =>
      have hg : vs[k]? = some vs[k] := List.getElem?_eq_getElem (by omega)
      have hgd : vs.getD k 0 = vs[k] := getD_get (by omega)
      by_cases h0 : vs[k] = 0
      · have HT' : Hid (tl vs k = tl vs 4) := by have := HT.out; simp only [tl, hgd, h0, if_true] at this; exact this
        clear HT hgd
        rw [h0] at hg
        go_wp2_with ((with_reducible apply W_loadCellG); rfl; rfl; (first | with_reducible exact M.r0 | with_reducible exact M.r1 | with_reducible exact M.r2 | with_reducible exact M.r3 | with_reducible exact M.r4 | with_reducible exact M.r5 | with_reducible exact M.r6 | assumption | exact M.kept.row (by assumption) (by simp)); (first | exact get_map (by assumption) | exact get_map rfl | rfl); exact Salg.underlying23; rfl; simp only [Act.put, List.setIfInBounds_toArray, List.set_cons_zero, List.set_cons_succ])
        go_round
        case rel => exact ⟨k, by omega, by go_num, HT'.out⟩
        case measure => simp [intOf]
      · have HT' : Hid (k + 1 = tl vs 4) := by have := HT.out; simp only [tl, hgd, h0, if_false] at this; exact this
        have hne : ((vs[k] : Int) == 0) = false := by rw [beq_eq_false_iff_ne]; omega
        clear HT hgd h0
        generalize vs[k] = x at *
        go_wp2_with ((with_reducible apply W_loadCellG); rfl; rfl; (first | with_reducible exact M.r0 | with_reducible exact M.r1 | with_reducible exact M.r2 | with_reducible exact M.r3 | with_reducible exact M.r4 | with_reducible exact M.r5 | with_reducible exact M.r6 | assumption | exact M.kept.row (by assumption) (by simp)); (first | exact get_map (by assumption) | exact get_map rfl | rfl); exact Salg.underlying23; rfl; simp only [Act.put, List.setIfInBounds_toArray, List.set_cons_zero, List.set_cons_succ])
        go_ret
        exact ⟨ret_int (by rw [← HT'.out]; rfl), M.kept⟩

set_option maxHeartbeats 2000000 in
set_option maxRecDepth 100000 in
theorem midHolds_any (bu bv tu tv : Nat) (us vs : List Nat) (n j : Nat) (w : World) (hru : w.heap[bu]? = some (R64 tu us)) (hrv : w.heap[bv]? = some (R64 tv vs)) (hu : us.length = 9) (hv : vs.length = 4)
    (hlu : Limbs us) (hlv : Limbs vs) (hn : 2 ≤ n) (hn' : n ≤ 4) (hj : j + n ≤ 8) :
    Calls Salg.prog 258 #[.slice (some ⟨bu, 0, none⟩) 9 9, .slice (some ⟨bv, 0, none⟩) 4 4, .int .u8 n, .int .u8 j] w fun e w' => e = .returned (.bool (midH us vs n j)) ∧ Kept [] w w' := by
  have M := Mem.start w []
  have hg : vs[n - 1]? = some vs[n - 1] := List.getElem?_eq_getElem (by omega)
  have hx := hlv.get (k := n - 1) (by omega)
  have hgd : vs.getD (n - 1) 0 = vs[n - 1] := getD_get (by omega)
  by_cases h63 : vs[n - 1] < 9223372036854775808
  · have HF : Hid (midH us vs n j = false) := by
      have : ¬ 9223372036854775808 ≤ vs.getD (n - 1) 0 := by omega
      simp only [Hid, midH, this, decide_false, Bool.false_and]
    clear hgd
    generalize vs[n - 1] = x at *
    go_enter Salg.func258, Salg.ntmps258
    go_wp2_with ((with_reducible apply W_loadCell); rfl; (first | with_reducible exact M.r0 | with_reducible exact M.r1 | with_reducible exact M.r2 | with_reducible exact M.r3 | with_reducible exact M.r4 | with_reducible exact M.r5 | with_reducible exact M.r6 | assumption | exact M.kept.row (by assumption) (by simp)); (first | exact get_map (by assumption) | exact get_map rfl | rfl); exact Salg.underlying23; rfl; simp only [Act.put, List.setIfInBounds_toArray, List.set_cons_zero, List.set_cons_succ])
    go_ret
    exact ⟨by rw [HF.out]; rfl, M.kept⟩
  · have HM : Hid (midH us vs n j = ((us.drop (j + n + 1)).all (· == 0) && decide (lval ((us.drop (j + 1)).take n) < lval (vs.take n)))) := by
      have : 9223372036854775808 ≤ vs.getD (n - 1) 0 := by omega
      simp only [Hid, midH, this, decide_true, Bool.true_and]
    clear hgd
    generalize vs[n - 1] = x at *
    go_enter Salg.func258, Salg.ntmps258
    go_wp2_with ((with_reducible apply W_loadCell); rfl; (first | with_reducible exact M.r0 | with_reducible exact M.r1 | with_reducible exact M.r2 | with_reducible exact M.r3 | with_reducible exact M.r4 | with_reducible exact M.r5 | with_reducible exact M.r6 | assumption | exact M.kept.row (by assumption) (by simp)); (first | exact get_map (by assumption) | exact get_map rfl | rfl); exact Salg.underlying23; rfl; simp only [Act.put, List.setIfInBounds_toArray, List.set_cons_zero, List.set_cons_succ])
    go_loop [9] (fun i => ∃ k : Nat, j + n + 1 ≤ k ∧ k ≤ 9 ∧ i = .int .i64 k ∧ ∀ i, j + n + 1 ≤ i → i < k → us.getD i 0 = 0) (fun i => 9 - (intOf i).toNat)
    case atStart => exact ⟨j + n + 1, by omega, by omega, by go_num, fun i h1 h2 => by omega⟩
    case round =>
      obtain ⟨k, hk, hk', rfl, hz⟩ := hrel
      have HZ := hid hz
      clear hz
      by_cases hlt : k < 9
      · have hgk : us[k]? = some us[k] := List.getElem?_eq_getElem (by omega)
        have hgkd : us.getD k 0 = us[k] := getD_get (by omega)
        by_cases hk0 : us[k] = 0
        · rw [hk0] at hgk hgkd
          have HZ' : Hid (∀ i, j + n + 1 ≤ i → i < k + 1 → us.getD i 0 = 0) := fun i h1 h2 => by
            by_cases hik : i = k
            · rw [hik]; exact hgkd
            · exact HZ.out i h1 (by omega)
          clear HZ hgkd hk0
          go_wp2_with ((with_reducible apply W_loadCell); rfl; (first | with_reducible exact M.r0 | with_reducible exact M.r1 | with_reducible exact M.r2 | with_reducible exact M.r3 | with_reducible exact M.r4 | with_reducible exact M.r5 | with_reducible exact M.r6 | assumption | exact M.kept.row (by assumption) (by simp)); (first | exact get_map (by assumption) | exact get_map rfl | rfl); exact Salg.underlying23; rfl; simp only [Act.put, List.setIfInBounds_toArray, List.set_cons_zero, List.set_cons_succ])
          go_round
          case rel => exact ⟨k + 1, by omega, by omega, by go_num, HZ'.out⟩
          case measure => simp [intOf]; omega
        · have HF : Hid (midH us vs n j = false) := by
            have : (us.drop (j + n + 1)).all (· == 0) = false := by
              rw [List.all_eq_false]
              refine ⟨us[k], ?_, by simpa using hk0⟩
              have : (us.drop (j + n + 1))[k - (j + n + 1)]? = some us[k] := by rw [List.getElem?_drop, show j + n + 1 + (k - (j + n + 1)) = k from by omega]; exact hgk
              exact List.mem_of_getElem? this
            show _ = false
            rw [HM.out, this]; rfl
          have hne : ((us[k] : Int) != 0) = true := by rw [bne_iff_ne]; omega
          clear hk0 hgkd
          generalize us[k] = y at *
          go_wp2_with ((with_reducible apply W_loadCell); rfl; (first | with_reducible exact M.r0 | with_reducible exact M.r1 | with_reducible exact M.r2 | with_reducible exact M.r3 | with_reducible exact M.r4 | with_reducible exact M.r5 | with_reducible exact M.r6 | assumption | exact M.kept.row (by assumption) (by simp)); (first | exact get_map (by assumption) | exact get_map rfl | rfl); exact Salg.underlying23; rfl; simp only [Act.put, List.setIfInBounds_toArray, List.set_cons_zero, List.set_cons_succ])
          go_ret
          exact ⟨by rw [HF.out]; rfl, M.kept⟩
      · have hall : (us.drop (j + n + 1)).all (· == 0) = true := by
          rw [List.all_eq_true]
          intro y hy
          obtain ⟨i, hi, rfl⟩ := List.getElem_of_mem hy
          rw [List.length_drop] at hi
          rw [List.getElem_drop]
          have := HZ.out (j + n + 1 + i) (by omega) (by omega)
          rw [getD_get (by omega)] at this
          simp [this]
        have HM2 : Hid (midH us vs n j = decide (lval ((us.drop (j + 1)).take n) < lval (vs.take n))) := by
          show _ = _
          rw [HM.out, hall, Bool.true_and]
        have hA : ((us.drop (j + 1)).take n).length = n := by simp; omega
        have hB : (vs.take n).length = n := by simp; omega
        have HLA : Hid (Limbs ((us.drop (j + 1)).take n)) := (hlu.drop _).take _
        have HLB : Hid (Limbs (vs.take n)) := hlv.take _
        have HGA : Hid (∀ k, k < n → us[j + (k + 1)]? = ((us.drop (j + 1)).take n)[k]?) := fun k hk => by
          rw [List.getElem?_take_of_lt hk, List.getElem?_drop, show j + 1 + k = j + (k + 1) from by omega]
        have HGB : Hid (∀ k, k < n → vs[k]? = (vs.take n)[k]?) := fun k hk => by rw [List.getElem?_take_of_lt hk]
        clear HM hall HZ
        generalize (us.drop (j + 1)).take n = A at *
        generalize vs.take n = B at *
        go_wp2_with fail
        go_loopw [10] (fun i wr => ∃ k : Nat, k ≤ n ∧ i = .int .u8 k ∧ A.drop k = B.drop k ∧ Mem w [] [] wr) (fun i _ => (intOf i).toNat)
        case atStart => exact ⟨n, by omega, rfl, by rw [List.drop_of_length_le (by omega), List.drop_of_length_le (by omega)], M⟩
        case round =>
          obtain ⟨k, hk, rfl, hdrop, M⟩ := hrel
          have HDR := hid hdrop
          clear hdrop
          match k, hk, HDR with
          | 0, hk, HDR =>
            have HAB : Hid (A = B) := HDR.out
            clear HDR
            go_wp2_with fail
            go_ret
            exact ⟨by rw [HM2.out, HAB.out]; simp, M.kept⟩
          | k + 1, hk, HDR =>
            have hkA : k < A.length := by omega
            have hkB : k < B.length := by omega
            have hga := HGA.out k (by omega)
            have hgb := HGB.out k (by omega)
            rw [List.getElem?_eq_getElem hkA] at hga
            rw [List.getElem?_eq_getElem hkB] at hgb
            have HLT : Hid (A[k] < B[k] → lval A < lval B) := fun h => llt_of_limb HLA.out hkA hkB HDR.out h
            have HGT : Hid (B[k] < A[k] → lval B < lval A) := fun h => llt_of_limb HLB.out hkB hkA HDR.out.symm h
            have HEQ : Hid (A[k] = B[k] → A.drop k = B.drop k) := fun h => by rw [List.drop_eq_getElem_cons hkA, List.drop_eq_getElem_cons hkB, HDR.out, h]
            generalize A[k] = x at *
            generalize B[k] = y at *
            by_cases hxy : x = y
            · subst hxy
              have HD : Hid (A.drop k = B.drop k) := HEQ.out rfl
              clear HEQ HLT HGT
              have hnn : ((x : Int) != (x : Int)) = false := by simp
              go_wp2_with fail
              refine S_region (by kernel_rfl) ?_
              refine S_quiet 0 12 (by kernel_rfl) (by decide) M.drew ?_
              clear M
              simp only [List.take_succ_cons, List.take_zero, List.drop_zero, List.drop_succ_cons, Nat.sub_zero, Nat.reduceSub]
              ((with_reducible apply Q_run); rfl; (intro w M; go_simp; (try go_ints); (try simp only [↓IntWalk.iteOmega]); (try with_reducible rfl)); simp only [Act.put, List.setIfInBounds_toArray, List.set_cons_zero, List.set_cons_succ])
              ((with_reducible apply Q_run); rfl; (intro w M; go_simp; (try go_ints); (try simp only [↓IntWalk.iteOmega]); (try with_reducible rfl)); simp only [Act.put, List.setIfInBounds_toArray, List.set_cons_zero, List.set_cons_succ])
              ((with_reducible apply Q_run); rfl; (intro w M; go_simp; (try go_ints); (try simp only [↓IntWalk.iteOmega]); (try with_reducible rfl)); simp only [Act.put, List.setIfInBounds_toArray, List.set_cons_zero, List.set_cons_succ])
              ((with_reducible apply Q_run); rfl; (intro w M; go_simp; (try go_ints); (try simp only [↓IntWalk.iteOmega]); (try with_reducible rfl)); simp only [Act.put, List.setIfInBounds_toArray, List.set_cons_zero, List.set_cons_succ])
              ((with_reducible apply Q_run); rfl; (intro w M; go_simp; (try go_ints); (try simp only [↓IntWalk.iteOmega]); (try with_reducible rfl)); simp only [Act.put, List.setIfInBounds_toArray, List.set_cons_zero, List.set_cons_succ])
              ((with_reducible apply Q_run); rfl; (intro w M; exact run_loadCell (by (first | with_reducible exact M.r0 | with_reducible exact M.r1 | with_reducible exact M.r2 | with_reducible exact M.r3 | with_reducible exact M.r4 | with_reducible exact M.r5 | with_reducible exact M.r6 | assumption | exact M.kept.row (by assumption) (by simp))) rfl (by (first | exact get_map (by assumption) | exact get_map rfl | rfl)) Salg.underlying23 rfl); simp only [Act.put, List.setIfInBounds_toArray, List.set_cons_zero, List.set_cons_succ])
              ((with_reducible apply Q_run); rfl; (intro w M; go_simp; (try go_ints); (try simp only [↓IntWalk.iteOmega]); (try with_reducible rfl)); simp only [Act.put, List.setIfInBounds_toArray, List.set_cons_zero, List.set_cons_succ])
              ((with_reducible apply Q_run); rfl; (intro w M; go_simp; (try go_ints); (try simp only [↓IntWalk.iteOmega]); (try with_reducible rfl)); simp only [Act.put, List.setIfInBounds_toArray, List.set_cons_zero, List.set_cons_succ])
              ((with_reducible apply Q_run); rfl; (intro w M; go_simp; (try go_ints); (try simp only [↓IntWalk.iteOmega]); (try with_reducible rfl)); simp only [Act.put, List.setIfInBounds_toArray, List.set_cons_zero, List.set_cons_succ])
              ((with_reducible apply Q_run); rfl; (intro w M; go_simp; (try go_ints); (try simp only [↓IntWalk.iteOmega]); (try with_reducible rfl)); simp only [Act.put, List.setIfInBounds_toArray, List.set_cons_zero, List.set_cons_succ])
              ((with_reducible apply Q_run); rfl; (intro w M; exact run_loadCell (by (first | with_reducible exact M.r0 | with_reducible exact M.r1 | with_reducible exact M.r2 | with_reducible exact M.r3 | with_reducible exact M.r4 | with_reducible exact M.r5 | with_reducible exact M.r6 | assumption | exact M.kept.row (by assumption) (by simp))) rfl (by (first | exact get_map (by assumption) | exact get_map rfl | rfl)) Salg.underlying23 rfl); simp only [Act.put, List.setIfInBounds_toArray, List.set_cons_zero, List.set_cons_succ])
              ((with_reducible apply Q_run); rfl; (intro w M; go_simp; (try go_ints); (try simp only [↓IntWalk.iteOmega]); (try with_reducible rfl)); simp only [Act.put, List.setIfInBounds_toArray, List.set_cons_zero, List.set_cons_succ])
              refine Q_nil ?_
              intro w2 M
              refine S_done ?_
              go_wp2_with fail
              go_roundw
              case rel => exact ⟨k, by omega, by go_num, HD.out, M⟩
              case measure => simp [intOf]
            · have hnn : ((x : Int) != (y : Int)) = true := by rw [bne_iff_ne]; omega
              have HR : Hid (decide (lval A < lval B) = decide (x < y)) := by
                rcases Nat.lt_or_ge x y with h | h
                · have h1 := HLT.out h
                  simp [Hid, h1, h]
                · have h1 := HGT.out (by omega)
                  have h2 : ¬ x < y := by omega
                  have h3 : ¬ lval A < lval B := by omega
                  simp only [Hid, h2, h3]
              clear HEQ HLT HGT
              go_wp2_with fail
              refine S_region (by kernel_rfl) ?_
              refine S_quiet 0 12 (by kernel_rfl) (by decide) M.drew ?_
              clear M
              simp only [List.take_succ_cons, List.take_zero, List.drop_zero, List.drop_succ_cons, Nat.sub_zero, Nat.reduceSub]
              ((with_reducible apply Q_run); rfl; (intro w M; go_simp; (try go_ints); (try simp only [↓IntWalk.iteOmega]); (try with_reducible rfl)); simp only [Act.put, List.setIfInBounds_toArray, List.set_cons_zero, List.set_cons_succ])
              ((with_reducible apply Q_run); rfl; (intro w M; go_simp; (try go_ints); (try simp only [↓IntWalk.iteOmega]); (try with_reducible rfl)); simp only [Act.put, List.setIfInBounds_toArray, List.set_cons_zero, List.set_cons_succ])
              ((with_reducible apply Q_run); rfl; (intro w M; go_simp; (try go_ints); (try simp only [↓IntWalk.iteOmega]); (try with_reducible rfl)); simp only [Act.put, List.setIfInBounds_toArray, List.set_cons_zero, List.set_cons_succ])
              ((with_reducible apply Q_run); rfl; (intro w M; go_simp; (try go_ints); (try simp only [↓IntWalk.iteOmega]); (try with_reducible rfl)); simp only [Act.put, List.setIfInBounds_toArray, List.set_cons_zero, List.set_cons_succ])
              ((with_reducible apply Q_run); rfl; (intro w M; go_simp; (try go_ints); (try simp only [↓IntWalk.iteOmega]); (try with_reducible rfl)); simp only [Act.put, List.setIfInBounds_toArray, List.set_cons_zero, List.set_cons_succ])
              ((with_reducible apply Q_run); rfl; (intro w M; exact run_loadCell (by (first | with_reducible exact M.r0 | with_reducible exact M.r1 | with_reducible exact M.r2 | with_reducible exact M.r3 | with_reducible exact M.r4 | with_reducible exact M.r5 | with_reducible exact M.r6 | assumption | exact M.kept.row (by assumption) (by simp))) rfl (by (first | exact get_map (by assumption) | exact get_map rfl | rfl)) Salg.underlying23 rfl); simp only [Act.put, List.setIfInBounds_toArray, List.set_cons_zero, List.set_cons_succ])
              ((with_reducible apply Q_run); rfl; (intro w M; go_simp; (try go_ints); (try simp only [↓IntWalk.iteOmega]); (try with_reducible rfl)); simp only [Act.put, List.setIfInBounds_toArray, List.set_cons_zero, List.set_cons_succ])
              ((with_reducible apply Q_run); rfl; (intro w M; go_simp; (try go_ints); (try simp only [↓IntWalk.iteOmega]); (try with_reducible rfl)); simp only [Act.put, List.setIfInBounds_toArray, List.set_cons_zero, List.set_cons_succ])
              ((with_reducible apply Q_run); rfl; (intro w M; go_simp; (try go_ints); (try simp only [↓IntWalk.iteOmega]); (try with_reducible rfl)); simp only [Act.put, List.setIfInBounds_toArray, List.set_cons_zero, List.set_cons_succ])
              ((with_reducible apply Q_run); rfl; (intro w M; go_simp; (try go_ints); (try simp only [↓IntWalk.iteOmega]); (try with_reducible rfl)); simp only [Act.put, List.setIfInBounds_toArray, List.set_cons_zero, List.set_cons_succ])
              ((with_reducible apply Q_run); rfl; (intro w M; exact run_loadCell (by (first | with_reducible exact M.r0 | with_reducible exact M.r1 | with_reducible exact M.r2 | with_reducible exact M.r3 | with_reducible exact M.r4 | with_reducible exact M.r5 | with_reducible exact M.r6 | assumption | exact M.kept.row (by assumption) (by simp))) rfl (by (first | exact get_map (by assumption) | exact get_map rfl | rfl)) Salg.underlying23 rfl); simp only [Act.put, List.setIfInBounds_toArray, List.set_cons_zero, List.set_cons_succ])
              ((with_reducible apply Q_run); rfl; (intro w M; go_simp; (try go_ints); (try simp only [↓IntWalk.iteOmega]); (try with_reducible rfl)); simp only [Act.put, List.setIfInBounds_toArray, List.set_cons_zero, List.set_cons_succ])
              refine Q_nil ?_
              intro w2 M
              refine S_done ?_
              go_wp2_with fail
              refine S_region (by kernel_rfl) ?_
              refine S_quiet 0 13 (by kernel_rfl) (by decide) M.drew ?_
              clear M
              simp only [List.take_succ_cons, List.take_zero, List.drop_zero, List.drop_succ_cons, Nat.sub_zero, Nat.reduceSub]
              ((with_reducible apply Q_run); rfl; (intro w M; go_simp; (try go_ints); (try simp only [↓IntWalk.iteOmega]); (try with_reducible rfl)); simp only [Act.put, List.setIfInBounds_toArray, List.set_cons_zero, List.set_cons_succ])
              ((with_reducible apply Q_run); rfl; (intro w M; go_simp; (try go_ints); (try simp only [↓IntWalk.iteOmega]); (try with_reducible rfl)); simp only [Act.put, List.setIfInBounds_toArray, List.set_cons_zero, List.set_cons_succ])
              ((with_reducible apply Q_run); rfl; (intro w M; go_simp; (try go_ints); (try simp only [↓IntWalk.iteOmega]); (try with_reducible rfl)); simp only [Act.put, List.setIfInBounds_toArray, List.set_cons_zero, List.set_cons_succ])
              ((with_reducible apply Q_run); rfl; (intro w M; go_simp; (try go_ints); (try simp only [↓IntWalk.iteOmega]); (try with_reducible rfl)); simp only [Act.put, List.setIfInBounds_toArray, List.set_cons_zero, List.set_cons_succ])
              ((with_reducible apply Q_run); rfl; (intro w M; go_simp; (try go_ints); (try simp only [↓IntWalk.iteOmega]); (try with_reducible rfl)); simp only [Act.put, List.setIfInBounds_toArray, List.set_cons_zero, List.set_cons_succ])
              ((with_reducible apply Q_run); rfl; (intro w M; exact run_loadCell (by (first | with_reducible exact M.r0 | with_reducible exact M.r1 | with_reducible exact M.r2 | with_reducible exact M.r3 | with_reducible exact M.r4 | with_reducible exact M.r5 | with_reducible exact M.r6 | assumption | exact M.kept.row (by assumption) (by simp))) rfl (by (first | exact get_map (by assumption) | exact get_map rfl | rfl)) Salg.underlying23 rfl); simp only [Act.put, List.setIfInBounds_toArray, List.set_cons_zero, List.set_cons_succ])
              ((with_reducible apply Q_run); rfl; (intro w M; go_simp; (try go_ints); (try simp only [↓IntWalk.iteOmega]); (try with_reducible rfl)); simp only [Act.put, List.setIfInBounds_toArray, List.set_cons_zero, List.set_cons_succ])
              ((with_reducible apply Q_run); rfl; (intro w M; go_simp; (try go_ints); (try simp only [↓IntWalk.iteOmega]); (try with_reducible rfl)); simp only [Act.put, List.setIfInBounds_toArray, List.set_cons_zero, List.set_cons_succ])
              ((with_reducible apply Q_run); rfl; (intro w M; go_simp; (try go_ints); (try simp only [↓IntWalk.iteOmega]); (try with_reducible rfl)); simp only [Act.put, List.setIfInBounds_toArray, List.set_cons_zero, List.set_cons_succ])
              ((with_reducible apply Q_run); rfl; (intro w M; go_simp; (try go_ints); (try simp only [↓IntWalk.iteOmega]); (try with_reducible rfl)); simp only [Act.put, List.setIfInBounds_toArray, List.set_cons_zero, List.set_cons_succ])
              ((with_reducible apply Q_run); rfl; (intro w M; exact run_loadCell (by (first | with_reducible exact M.r0 | with_reducible exact M.r1 | with_reducible exact M.r2 | with_reducible exact M.r3 | with_reducible exact M.r4 | with_reducible exact M.r5 | with_reducible exact M.r6 | assumption | exact M.kept.row (by assumption) (by simp))) rfl (by (first | exact get_map (by assumption) | exact get_map rfl | rfl)) Salg.underlying23 rfl); simp only [Act.put, List.setIfInBounds_toArray, List.set_cons_zero, List.set_cons_succ])
              ((with_reducible apply Q_run); rfl; (intro w M; go_simp; (try go_ints); (try simp only [↓IntWalk.iteOmega]); (try with_reducible rfl)); simp only [Act.put, List.setIfInBounds_toArray, List.set_cons_zero, List.set_cons_succ])
              ((with_reducible apply Q_run); rfl; (intro w M; go_simp; (try go_ints); (try simp only [↓IntWalk.iteOmega]); (try with_reducible rfl)); simp only [Act.put, List.setIfInBounds_toArray, List.set_cons_zero, List.set_cons_succ])
              refine Q_nil ?_
              intro w2 M
              refine S_done ?_
              go_wp2_with fail
              go_ret
              exact ⟨by rw [HM2.out, HR.out]; rfl, M.kept⟩

set_option maxHeartbeats 2000000 in
set_option maxRecDepth 100000 in
theorem divMid_any (bu bv tu tv : Nat) (us vs : List Nat) (n j : Nat) (w : World) (hru : w.heap[bu]? = some (R64 tu us)) (hrv : w.heap[bv]? = some (R64 tv vs)) (hu : us.length = 9) (hv : vs.length = 4)
    (hlu : Limbs us) (hlv : Limbs vs) (hn : n < 256) :
    Calls Salg.prog 249 #[.pointer (some ⟨bu, 0, none⟩), .pointer (some ⟨bv, 0, none⟩), .int .u8 n, .int .u8 j] w fun e w' => e = .returned (.bool (midB us vs n j)) ∧ Kept [] w w' := by
  have M := Mem.start w []
  by_cases h2 : n < 2
  · have HF : Hid (midB us vs n j = false) := by simp [Hid, midB]; omega
    go_enter Salg.func249, Salg.ntmps249
    go_wp2_with fail
    go_ret
    exact ⟨by rw [HF.out]; rfl, M.kept⟩
  by_cases h4 : 4 < n
  · have HF : Hid (midB us vs n j = false) := by simp [Hid, midB]; omega
    go_enter Salg.func249, Salg.ntmps249
    go_wp2_with fail
    go_ret
    exact ⟨by rw [HF.out]; rfl, M.kept⟩
  by_cases h8 : 8 < j + n
  · have HF : Hid (midB us vs n j = false) := by simp [Hid, midB]; omega
    go_enter Salg.func249, Salg.ntmps249
    go_wp2_with fail
    go_ret
    exact ⟨by rw [HF.out]; rfl, M.kept⟩
  have d1 : decide ((n : Int) < 2) = false := by simp; omega
  have d2 : decide ((4 : Int) < (n : Int)) = false := by simp; omega
  have d3 : decide ((8 : Int) - (n : Int) < (j : Int)) = false := by simp; omega
  by_cases ht : tl vs 4 = n
  · have HE := hid (midH_eq (us := us) (j := j) hu hv hlv (by omega) (by omega) (by omega) ht)
    have HT := hid ht
    have hnn : ((n : Int) != (n : Int)) = false := by simp
    clear ht
    go_enter Salg.func249, Salg.ntmps249
    go_wp2_with (first
      | ((with_reducible apply W_loadAllG); rfl; rfl; (first | with_reducible exact M.r0 | with_reducible exact M.r1 | with_reducible exact M.r2 | with_reducible exact M.r3 | with_reducible exact M.r4 | with_reducible exact M.r5 | with_reducible exact M.r6 | assumption | exact M.kept.row (by assumption) (by simp)); exact Salg.underlying25; rfl; (first | with_reducible exact size25 | (rw [size25]; simp [hv])); simp only [Act.put, List.setIfInBounds_toArray, List.set_cons_zero, List.set_cons_succ])
      | (go_at_call 79; refine (limbs_any vs _ hv).mono ?_; rintro e w3 ⟨rfl, K⟩; rw [HT.out]; replace M := M.call K; clear K))
    refine S_region (by kernel_rfl) ?_
    refine S_quiet 0 10 (by kernel_rfl) (by decide) M.drew ?_
    clear M
    simp only [List.take_succ_cons, List.take_zero, List.drop_zero, List.drop_succ_cons, Nat.sub_zero, Nat.reduceSub]
    ((with_reducible apply Q_run); rfl; (intro w M; go_simp; (try go_ints); (try simp only [↓IntWalk.iteOmega]); (try with_reducible rfl)); simp only [Act.put, List.setIfInBounds_toArray, List.set_cons_zero, List.set_cons_succ])
    ((with_reducible apply Q_run); rfl; (intro w M; go_simp; (try go_ints); (try simp only [↓IntWalk.iteOmega]); (try with_reducible rfl)); simp only [Act.put, List.setIfInBounds_toArray, List.set_cons_zero, List.set_cons_succ])
    ((with_reducible apply Q_run); rfl; (intro w M; go_simp; (try go_ints); (try simp only [↓IntWalk.iteOmega]); (try with_reducible rfl)); simp only [Act.put, List.setIfInBounds_toArray, List.set_cons_zero, List.set_cons_succ])
    ((with_reducible apply Q_run); rfl; (intro w M; go_simp; (try go_ints); (try simp only [↓IntWalk.iteOmega]); (try with_reducible rfl)); simp only [Act.put, List.setIfInBounds_toArray, List.set_cons_zero, List.set_cons_succ])
    ((with_reducible apply Q_run); rfl; (intro w M; go_simp; (try go_ints); (try simp only [↓IntWalk.iteOmega]); (try with_reducible rfl)); simp only [Act.put, List.setIfInBounds_toArray, List.set_cons_zero, List.set_cons_succ])
    ((with_reducible apply Q_run); rfl; (intro w M; go_simp; (try go_ints); (try simp only [↓IntWalk.iteOmega]); (try with_reducible rfl)); simp only [Act.put, List.setIfInBounds_toArray, List.set_cons_zero, List.set_cons_succ])
    ((with_reducible apply Q_run); rfl; (intro w M; go_simp; (try go_ints); (try simp only [↓IntWalk.iteOmega]); (try with_reducible rfl)); simp only [Act.put, List.setIfInBounds_toArray, List.set_cons_zero, List.set_cons_succ])
    ((with_reducible apply Q_run); rfl; (intro w M; go_simp; (try go_ints); (try simp only [↓IntWalk.iteOmega]); (try with_reducible rfl)); simp only [Act.put, List.setIfInBounds_toArray, List.set_cons_zero, List.set_cons_succ])
    refine Q_call rfl Salg.func258 (by kernel_rfl) (by kernel_rfl) (args := [.slice (some ⟨bu, 0, none⟩) 9 9, .slice (some ⟨bv, 0, none⟩) 4 4, .int .u8 n, .int .u8 j]) rfl
      (fun w M => midHolds_any bu bv tu tv us vs n j w (M.kept.row hru (by simp)) (M.kept.row hrv (by simp)) hu hv hlu hlv (by omega) (by omega) (by omega)) ?_
    simp only [Act.put, List.setIfInBounds_toArray, List.set_cons_zero, List.set_cons_succ]
    ((with_reducible apply Q_run); rfl; (intro w M; go_simp; (try go_ints); (try simp only [↓IntWalk.iteOmega]); (try with_reducible rfl)); simp only [Act.put, List.setIfInBounds_toArray, List.set_cons_zero, List.set_cons_succ])
    refine Q_nil ?_
    intro w2 M
    refine S_done ?_
    go_wp2_with fail
    go_ret
    exact ⟨by rw [← HE.out]; rfl, M.kept⟩
  · have HF := hid (midB_tl (us := us) (j := j) hv hlv ht)
    have hnn : (((tl vs 4 : Nat) : Int) != (n : Int)) = true := by rw [bne_iff_ne]; omega
    clear ht
    have HL := hid (fun w => limbs_any vs w hv)
    generalize tl vs 4 = T at *
    go_enter Salg.func249, Salg.ntmps249
    go_wp2_with (first
      | ((with_reducible apply W_loadAllG); rfl; rfl; (first | with_reducible exact M.r0 | with_reducible exact M.r1 | with_reducible exact M.r2 | with_reducible exact M.r3 | with_reducible exact M.r4 | with_reducible exact M.r5 | with_reducible exact M.r6 | assumption | exact M.kept.row (by assumption) (by simp)); exact Salg.underlying25; rfl; (first | with_reducible exact size25 | (rw [size25]; simp [hv])); simp only [Act.put, List.setIfInBounds_toArray, List.set_cons_zero, List.set_cons_succ])
      | (go_at_call 79; refine (HL.out _).mono ?_; rintro e w3 ⟨rfl, K⟩; replace M := M.call K; clear K))
    go_ret
    exact ⟨by rw [HF.out]; rfl, M.kept⟩
end Go.Proofs.YgcsalGreat

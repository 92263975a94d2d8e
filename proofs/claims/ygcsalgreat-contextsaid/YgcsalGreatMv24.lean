/-
  The walk of (*yp.State).plain at SWAP.
-/
import Derived.Test.YgcsalGreatMv21
set_option linter.unusedSimpArgs false
set_option linter.unusedVariables false
namespace Go.Proofs.YgcsalGreat
open Go.RowKit Go.Own

set_option maxHeartbeats 4000000 in
set_option maxRecDepth 100000 in
theorem plain_swap (st : Value) (fb m : Nat) (o t g : Nat) (fs : Array Value) (pv sv : Value) (xs : List Value) (w : World) (hk : OpK o t g 0 3) (h144 : 144 ≤ o) (h159 : o ≤ 159) (ht2 : 2 ≤ t) (hr : w.heap[fb]? = some (.cells fs 142 (0, 0))) (h3 : fs[3]? = some pv) (hp : NumV w pv m) (h8 : fs[8]? = some sv) (hs : RowV w 89 sv xs) (h1 : ∀ u ∈ xs, u.oneCell' = true) (hl : xs.length ≤ 40) (hlt : t ≤ xs.length) (hm : m ≤ 1000) :
    Calls Salg.prog 120 #[st, .pointer (some ⟨fb, 0, none⟩), .int .u8 o] w fun e w' => ∃ r v' pv', e = .returned r ∧ Kept [fb] w w' ∧ w'.heap[fb]? = some (.cells ((fs.setIfInBounds 8 v').setIfInBounds 3 pv') 142 (0, 0)) ∧ RowV w' 89 v' (swapL xs t) ∧ NumV w' pv' (m + (1 + 0)) := by
  have M := Mem.start w []
  have HK := hid (hk)
  have deql86 : decide ((o : Int) = 86) = false := by simp; omega
  have deql87 : decide ((o : Int) = 87) = false := by simp; omega
  have dgeq128 : decide ((128 : Int) ≤ (o : Int)) = true := by simp; omega
  have dleq143 : decide ((o : Int) ≤ 143) = false := by simp; omega
  have dgeq144 : decide ((144 : Int) ≤ (o : Int)) = true := by simp; omega
  have dleq159 : decide ((o : Int) ≤ 159) = true := by simp; omega
  have hk2 := hk
  have ht17 := hk.ht
  have HP := hid hp
  have HS := hid hs
  have H1 := hid h1
  obtain ⟨p, cap, rfl⟩ : ∃ p cap, sv = .slice p xs.length cap := by
    rcases hs with ⟨rfl, rfl⟩ | ⟨g, cap, cur, rfl, _⟩
    · exact ⟨none, 0, rfl⟩
    · exact ⟨_, _, rfl⟩
  have HNB := hid (not_bytes_at (tc := 142) h8)
  have HCT := hid (HS.out.cut (xs.length - t) (by omega))
  have hcap := HCT.out.1
  have HT : Hid (TightV w 89 (.slice p (xs.length - t) (xs.length - t)) (xs.take (xs.length - t))) := HCT.out.2
  have HA := hid (fun w' (K : Kept [] w w') i (hi : i < xs.length) u hu => arg_any fb fs _ u xs i w' (K.row hr (by simp)) h8 (HS.out.kept K) hi hu (by omega))
  have HAS := hid (fun i u (hi : i < t) (hx : i < xs.length) hu => argsL_set (t := t) (u := u) hi hx hu)
  have HAL := hid (fun i (h : i ≤ xs.length) (hi : i ≤ t) => argsL_length (t := t) h hi)
  have HAZ := hid (argsL_zero xs (t))
  have HAA := hid (argsL_all xs (t))
  have hsz8 : 8 < fs.size := (Array.getElem?_eq_some_iff.1 h8).1
  clear hp hs h1 HCT
  have HXS : Hid (∀ i, i < xs.length → ∃ u, xs[xs.length - 1 - i]? = some u) := fun i hi => ⟨xs[xs.length - 1 - i], List.getElem?_eq_getElem (by omega)⟩
  obtain ⟨n, hn⟩ : ∃ n, n = xs.length := ⟨_, rfl⟩
  rw [← hn] at HT HA HAS HAL HXS hcap hl hlt h8
  have HN := hid hn
  clear hn
  go_enter Salg.func120, Salg.ntmps120
  go_wp2_with fail
  refine (HK.out.ar _).mono ?_
  rintro e w1 ⟨rfl, hw⟩
  replace hw := hw.symm
  subst hw
  go_wp2_with ((with_reducible apply W_makeV (n := t) (s := 1) (cs := (List.replicate (t) (.slice none 0 0)).toArray) M); rfl; rfl; (first | rfl | omega); (first | rfl | omega); (first | decide | omega); exact Salg.underlying140; exact info89; rfl; decide; decide; decide; exact range1 _ _ rfl; clear M; intro ab w2 hab hab2 K M; rw [← HAZ.out] at M; clear K; simp only [Act.put, List.setIfInBounds_toArray, List.set_cons_zero, List.set_cons_succ])
  go_loopw [10, 24] (fun _ iv wr => ∃ i : Nat, i ≤ t ∧ iv = .int .i64 i ∧ Mem w [] [(ab, .cells (argsL xs i (t)).toArray 89 (0, 0))] wr) (fun _ iv _ => (((t : Nat) : Int) - intOf iv).toNat)
  case atStart => exact ⟨0, by omega, rfl, M⟩
  case round =>
    clear M
    obtain ⟨i, hi, rfl, M⟩ := hrel
    rcases Nat.lt_or_ge i (t) with hlt2 | hge
    · obtain ⟨u, hu⟩ := HXS.out i (by omega)
      have HAu := hid (HA.out _ M.kept i (by omega) u hu)
      have HAs := HAS.out i u hlt2 (by omega) hu
      have HAl := HAL.out i (by omega) (by omega)
      have hu1 := oneCell_mem H1.out hu
      have hsz3 : i < (argsL xs i (t)).toArray.size := by rw [List.size_toArray, HAl]; exact hlt2
      go_wp2_with fail
      refine (HAu.out).mono ?_
      rintro e w3 ⟨rfl, K⟩
      replace M := M.call K
      clear K
      go_wp2_with ((with_reducible apply W_stV (b := ab) (o := i) (v := u)); rfl; rfl; exact hu1; exact M.r0; exact size89; exact hsz3; intro w4 K hr4; rw [HAs] at hr4; replace M := Mem.callPut (L1 := []) M (Or.inr hab) K hr4; clear K hr4; simp only [List.nil_append] at M)
      go_roundw
      case rel => exact ⟨i + 1, by omega, by go_num, M⟩
      case measure => simp [intOf]; omega
    · have hit : t = i := by omega
      subst hit
      clear hge HA HAS HAL HXS
      rw [HAA.out] at M
      have HG := hid (fun i (hi : i < t) => args_get (t := t) (i := i) hi (by rw [← HN.out]; exact hlt))
      rw [← HN.out] at HG
      go_wp2_with fail
      refine S_region (by kernel_rfl) ?_
      refine E_stage 0 11 [0, 1, 2, 3, 4, 5, 6, 7, 8, 9, 10] (by kernel_rfl) M.drew ?_
      clear M
      simp only [List.filterMap_cons, List.filterMap_nil, List.getElem?_cons_zero, List.getElem?_cons_succ]
      ((with_reducible apply E_run); rfl; rfl; (intro w M; go_simp; (try go_ints); (try simp only [↓IntWalk.iteOmega]); (try with_reducible rfl)); simp only [Act.put, List.setIfInBounds_toArray, List.set_cons_zero, List.set_cons_succ])
      ((with_reducible apply E_run); rfl; rfl; (intro w M; go_simp; (try go_ints); (try simp only [↓IntWalk.iteOmega]); (try with_reducible rfl)); simp only [Act.put, List.setIfInBounds_toArray, List.set_cons_zero, List.set_cons_succ])
      ((with_reducible apply E_run); rfl; rfl; (intro w M; go_simp; (try go_ints); (try simp only [↓IntWalk.iteOmega]); (try with_reducible rfl)); simp only [Act.put, List.setIfInBounds_toArray, List.set_cons_zero, List.set_cons_succ])
      ((with_reducible apply E_run); rfl; rfl; (intro w M; exact run_loadCell (M.kept.row hr (by simp)) rfl h3 Salg.underlying89 rfl); simp only [Act.put, List.setIfInBounds_toArray, List.set_cons_zero, List.set_cons_succ])
      ((with_reducible apply E_run); rfl; rfl; (intro w M; go_simp; (try go_ints); (try simp only [↓IntWalk.iteOmega]); (try with_reducible rfl)); simp only [Act.put, List.setIfInBounds_toArray, List.set_cons_zero, List.set_cons_succ])
      refine E_call rfl Salg.func195 (by kernel_rfl) (by kernel_rfl) (args := [.int .u8 o]) rfl ?_
      intro w1 K M
      clear K
      refine (HK.out.im _).mono ?_
      rintro e w4 ⟨rfl, hw⟩
      replace hw := hw.symm
      subst hw
      refine ⟨_, rfl, trivial, M, ?_⟩
      simp only [Act.put, List.setIfInBounds_toArray, List.set_cons_zero, List.set_cons_succ]
      ((with_reducible apply E_run); rfl; rfl; (intro w M; go_simp; (try go_ints); (try simp only [↓IntWalk.iteOmega]); (try with_reducible rfl)); simp only [Act.put, List.setIfInBounds_toArray, List.set_cons_zero, List.set_cons_succ])
      ((with_reducible apply E_run); rfl; rfl; (intro w M; go_simp; (try go_ints); (try simp only [↓IntWalk.iteOmega]); (try with_reducible rfl)); simp only [Act.put, List.setIfInBounds_toArray, List.set_cons_zero, List.set_cons_succ])
      refine E_call rfl Salg.func87 (by kernel_rfl) (by kernel_rfl) (args := [.int .u64 (((1 + 0 : Nat)) : Int)]) rfl ?_
      intro w1 K M
      clear K
      refine (num_int _ (1 + 0) (by rfl) (by omega) _).mono ?_
      rintro e w5 ⟨r1, rfl, xHR1, K⟩
      have HR1 := hid xHR1
      clear xHR1
      replace M := M.call K
      refine ⟨_, rfl, trivial, M, ?_⟩
      clear K
      simp only [Act.put, List.setIfInBounds_toArray, List.set_cons_zero, List.set_cons_succ]
      refine E_call rfl Salg.func68 (by kernel_rfl) (by kernel_rfl) (args := [pv, r1]) rfl ?_
      intro w1 K M
      replace HR1 := hid (HR1.out.kept K)
      clear K
      refine (add_num _ _ _ _ _ (HP.out.kept M.kept) HR1.out (by omega) (by omega)).mono ?_
      rintro e w6 ⟨r2, rfl, xHR2, K⟩
      have HR2 := hid xHR2
      clear xHR2
      replace HR1 := hid (HR1.out.kept K)
      replace M := M.call K
      refine ⟨_, rfl, trivial, M, ?_⟩
      clear K
      simp only [Act.put, List.setIfInBounds_toArray, List.set_cons_zero, List.set_cons_succ]
      ((with_reducible apply E_run); rfl; rfl; (intro w M; go_simp; (try go_ints); (try simp only [↓IntWalk.iteOmega]); (try with_reducible rfl)); simp only [Act.put, List.setIfInBounds_toArray, List.set_cons_zero, List.set_cons_succ])
      refine E_nil ?_
      intro w9 K M
      replace HR2 := hid (HR2.out.kept K)
      clear K
      refine S_done ?_
      go_wp2_with fail
      refine S_region (by kernel_rfl) ?_
      replace HR2 := hid (HR2.out.kept (Kept.refl [] _).drew)
      refine E_stage 0 20 [0, 1, 2, 3, 4, 5, 6, 7, 8, 9, 10, 11, 12, 13, 14, 15, 16, 17, 18, 19] (by kernel_rfl) M.drew ?_
      clear M
      simp only [List.filterMap_cons, List.filterMap_nil, List.getElem?_cons_zero, List.getElem?_cons_succ]
      ((with_reducible apply E_run); rfl; rfl; (intro w M; go_simp; (try go_ints); (try simp only [↓IntWalk.iteOmega]); (try with_reducible rfl)); simp only [Act.put, List.setIfInBounds_toArray, List.set_cons_zero, List.set_cons_succ])
      ((with_reducible apply E_run); rfl; rfl; (intro w M; go_simp; (try go_ints); (try simp only [↓IntWalk.iteOmega]); (try with_reducible rfl)); simp only [Act.put, List.setIfInBounds_toArray, List.set_cons_zero, List.set_cons_succ])
      ((with_reducible apply E_run); rfl; rfl; (intro w M; go_simp; (try go_ints); (try simp only [↓IntWalk.iteOmega]); (try with_reducible rfl)); simp only [Act.put, List.setIfInBounds_toArray, List.set_cons_zero, List.set_cons_succ])
      ((with_reducible apply E_run); rfl; rfl; (intro w M; exact run_loadCell (M.kept.row hr (by simp)) rfl h8 Salg.underlying140 rfl); simp only [Act.put, List.setIfInBounds_toArray, List.set_cons_zero, List.set_cons_succ])
      ((with_reducible apply E_run); rfl; rfl; (intro w M; go_simp; (try go_ints); (try simp only [↓IntWalk.iteOmega]); (try with_reducible rfl)); simp only [Act.put, List.setIfInBounds_toArray, List.set_cons_zero, List.set_cons_succ])
      ((with_reducible apply E_run); rfl; rfl; (intro w M; go_simp; (try go_ints); (try simp only [↓IntWalk.iteOmega]); (try with_reducible rfl)); simp only [Act.put, List.setIfInBounds_toArray, List.set_cons_zero, List.set_cons_succ])
      ((with_reducible apply E_run); rfl; rfl; (intro w M; go_simp; (try go_ints); (try simp only [↓IntWalk.iteOmega]); (try with_reducible rfl)); simp only [Act.put, List.setIfInBounds_toArray, List.set_cons_zero, List.set_cons_succ])
      ((with_reducible apply E_run); rfl; rfl; (intro w M; exact run_loadCell (M.kept.row hr (by simp)) rfl h8 Salg.underlying140 rfl); simp only [Act.put, List.setIfInBounds_toArray, List.set_cons_zero, List.set_cons_succ])
      ((with_reducible apply E_run); rfl; rfl; (intro w M; go_simp; (try go_ints); (try simp only [↓IntWalk.iteOmega]); (try with_reducible rfl)); simp only [Act.put, List.setIfInBounds_toArray, List.set_cons_zero, List.set_cons_succ])
      ((with_reducible apply E_run); rfl; rfl; (intro w M; go_simp; (try go_ints); (try simp only [↓IntWalk.iteOmega]); (try with_reducible rfl)); simp only [Act.put, List.setIfInBounds_toArray, List.set_cons_zero, List.set_cons_succ])
      ((with_reducible apply E_run); rfl; rfl; (intro w M; go_simp; (try go_ints); (try simp only [↓IntWalk.iteOmega]); (try with_reducible rfl)); simp only [Act.put, List.setIfInBounds_toArray, List.set_cons_zero, List.set_cons_succ])
      ((with_reducible apply E_run); rfl; rfl; (intro w M; go_simp; (try go_ints); (try simp only [↓IntWalk.iteOmega]); (try with_reducible rfl)); simp only [Act.put, List.setIfInBounds_toArray, List.set_cons_zero, List.set_cons_succ])
      ((with_reducible apply E_run); rfl; rfl; (intro w M; go_simp; (try go_ints); (try simp only [↓IntWalk.iteOmega]); (try with_reducible rfl)); simp only [Act.put, List.setIfInBounds_toArray, List.set_cons_zero, List.set_cons_succ])
      ((with_reducible apply E_run); rfl; rfl; (intro w M; go_simp; (try go_ints); (try simp only [↓IntWalk.iteOmega]); (try with_reducible rfl)); simp only [Act.put, List.setIfInBounds_toArray, List.set_cons_zero, List.set_cons_succ])
      ((with_reducible apply E_run); rfl; rfl; (intro w M; exact run_loadCell (M.kept.row hr (by simp)) rfl h8 Salg.underlying140 rfl); simp only [Act.put, List.setIfInBounds_toArray, List.set_cons_zero, List.set_cons_succ])
      ((with_reducible apply E_run); rfl; rfl; (intro w M; go_simp; (try go_ints); (try simp only [↓IntWalk.iteOmega]); (try with_reducible rfl)); simp only [Act.put, List.setIfInBounds_toArray, List.set_cons_zero, List.set_cons_succ])
      ((with_reducible apply E_run); rfl; rfl; (intro w M; go_simp; (try go_ints); (try simp only [↓IntWalk.iteOmega]); (try with_reducible rfl)); simp only [Act.put, List.setIfInBounds_toArray, List.set_cons_zero, List.set_cons_succ])
      ((with_reducible apply E_run); rfl; rfl; (intro w M; go_simp; (try go_ints); (try simp only [↓IntWalk.iteOmega]); (try with_reducible rfl)); simp only [Act.put, List.setIfInBounds_toArray, List.set_cons_zero, List.set_cons_succ])
      ((with_reducible apply E_run); rfl; rfl; (intro w M; exact run_slice3 (n := n - t) rfl rfl rfl (by omega) (by omega) Salg.underlying140 ⟨1, size89⟩ hcap); simp only [Act.put, List.setIfInBounds_toArray, List.set_cons_zero, List.set_cons_succ])
      ((with_reducible apply E_run); rfl; rfl; (intro w M; go_simp; (try go_ints); (try simp only [↓IntWalk.iteOmega]); (try with_reducible rfl)); simp only [Act.put, List.setIfInBounds_toArray, List.set_cons_zero, List.set_cons_succ])
      refine E_nil ?_
      intro w10 K M
      replace HR2 := hid (HR2.out.kept K)
      clear K
      refine S_done ?_
      have HAB := hid M.r0
      have M0 := M
      replace M := Mem.start w10 []
      have hht := hk2.ht
      obtain ⟨top, htop⟩ : ∃ u, xs[n - 1 - 0]? = some u := ⟨xs[n - 1 - 0]'(by rw [← HN.out]; omega), List.getElem?_eq_getElem (by rw [← HN.out]; omega)⟩
      obtain ⟨bot, hbot⟩ : ∃ u, xs[n - 1 - (t - 1)]? = some u := ⟨xs[n - 1 - (t - 1)]'(by rw [← HN.out]; omega), List.getElem?_eq_getElem (by rw [← HN.out]; omega)⟩
      have HU1 := hid (oneCell_mem H1.out htop)
      have HA0 : Hid ((xs.reverse.take t).toArray[0]? = some top) := by
        show _ = _
        rw [List.getElem?_toArray, HG.out 0 (by omega)]
        exact htop
      have HAT : Hid ((xs.reverse.take t).toArray[t - 1]? = some bot) := by
        show _ = _
        rw [List.getElem?_toArray, HG.out (t - 1) (by omega)]
        exact hbot
      have HTW := hid (HT.out.kept M0.kept)
      have HAL0 : Hid (xs.take (n - t) ++ [top] = accL xs t (t - 2) top) := by
        show _ = _
        simp [accL, HN.out]
      have HLN : Hid ((xs.take (n - t)).length = n - t) := by
        show _ = _
        rw [List.length_take, ← HN.out]
        omega
      go_wp2_with (first
        | ((with_reducible apply W_loadCell); rfl; exact M.kept.row HAB.out (by simp); exact HA0.out; exact Salg.underlying89; rfl; simp only [Act.put, List.setIfInBounds_toArray, List.set_cons_zero, List.set_cons_succ])
        | ((with_reducible apply W_buildIt (u := top) (vs := #[top]) (s := 1) M); rfl; exact one_cells HU1.out; exact Salg.underlying140; exact size89; exact zsome89; rfl; decide; decide; clear M; intro bn w11 hbn hbn2 KB M; have hsz11 := KB.size; clear KB; simp only [Act.put, List.setIfInBounds_toArray, List.set_cons_zero, List.set_cons_succ])
        | ((with_reducible apply W_appendK (bn := bn) (u := top) (xs := xs.take (n - t)) M); exact info89; exact Salg.underlying140; rfl; decide; rfl; rfl; exact HTW.out.kept M.kept; (simp; omega); exact M.r0; exact HU1.out; (have HSZ := M.kept.size); clear M; intro VV w12 M xO KA; have HOWN := hid xO; clear xO; clear KA; simp only [Act.put, List.setIfInBounds_toArray, List.set_cons_zero, List.set_cons_succ]))
      have HB : w10.heap.size ≤ w11.heap.size := HSZ
      have HB2 : w11.heap.size ≤ w12.heap.size := own_base HOWN.out
      rw [HAL0.out, HLN.out] at HOWN
      replace M := M.tail
      go_loopw [12, 13] (fun kv iv wr => ∃ i base : Nat, i ≤ t - 2 ∧ iv = .int .i64 i ∧ Mem w10 [] [] wr ∧ w10.heap.size ≤ base ∧ base ≤ wr.heap.size ∧ wr.ownsRow base 89 1 kv (n - t + 1 + (t - 2 - i)) (accL xs t i top)) (fun _ iv _ => (intOf iv).toNat)
      case atStart =>
        refine ⟨t - 2, w11.heap.size, Nat.le_refl _, by go_num, M, HB, HB2, ?_⟩
        have e : n - t + 1 + (t - 2 - (t - 2)) = n - t + 1 := by omega
        rw [e]
        exact HOWN.out
      case round =>
        clear M HOWN HB HB2
        obtain ⟨i, base, hi, rfl, M, hb1, hb2, xO⟩ := hrel
        have HOWN := hid xO
        clear xO
        rcases Nat.eq_zero_or_pos i with h0 | h0
        rotate_left
        · obtain ⟨u, hu⟩ : ∃ u, xs[n - 1 - i]? = some u := ⟨xs[n - 1 - i]'(by rw [← HN.out]; omega), List.getElem?_eq_getElem (by rw [← HN.out]; omega)⟩
          have HU1 := hid (oneCell_mem H1.out hu)
          have HAI : Hid ((xs.reverse.take t).toArray[i]? = some u) := by
            show _ = _
            rw [List.getElem?_toArray, HG.out i (by omega)]
            exact hu
          have HST : Hid (accL xs t i top ++ [u] = accL xs t (i - 1) top) := accL_step h0 hi (by rw [← HN.out]; exact hlt) (by rw [← HN.out]; exact hu)
          clear hu
          have d0 : decide ((0 : Int) < (i : Int)) = true := by simp; omega
          go_wp2_with (first
            | ((with_reducible apply W_loadCell); rfl; exact M.kept.row HAB.out (by simp); exact HAI.out; exact Salg.underlying89; rfl; simp only [Act.put, List.setIfInBounds_toArray, List.set_cons_zero, List.set_cons_succ])
            | ((with_reducible apply W_buildIt (u := u) (vs := #[u]) (s := 1) M); rfl; exact one_cells HU1.out; exact Salg.underlying140; exact size89; exact zsome89; rfl; decide; decide; clear M; have HOWN2 := HOWN; intro bn2 w13 hbn2 hbn22 KB M; have hsz13 := KB.size; replace HOWN := hid (own_kept HOWN.out KB); have HBL := hid (own_new HOWN2.out hbn22); clear KB; simp only [Act.put, List.setIfInBounds_toArray, List.set_cons_zero, List.set_cons_succ])
            | ((with_reducible apply W_appendIt (base := base) (n := n - t + 1 + (t - 2 - i)) (m := 1) (s := 1) (bn := bn2) (so := 0) (news := [u]) (cs := #[u]) M); exact info89; exact Salg.underlying140; rfl; decide; decide; rfl; rfl; exact HOWN.out; omega; exact M.r0; rfl; exact one_news _; exact one_one HU1.out; exact hb1; exact Nat.le_trans hb2 hsz13; exact apart1 HBL.out; clear M; intro VV w14 M xO hb3 KA; replace HOWN := hid xO; clear xO; clear KA; simp only [Act.put, List.setIfInBounds_toArray, List.set_cons_zero, List.set_cons_succ]))
          go_roundw
          case rel =>
            refine ⟨i - 1, base, by omega, by go_num, M.tail, hb1, by assumption, ?_⟩
            have e : n - t + 1 + (t - 2 - (i - 1)) = n - t + 1 + (t - 2 - i) + 1 := by omega
            rw [e, ← HST.out]
            exact HOWN.out
          case measure => simp [intOf]; omega
        · subst h0
          have HU1 := hid (oneCell_mem H1.out hbot)
          have HEN : Hid (accL xs t 0 top ++ [bot] = swapL xs t) := accL_end ht2 (by rw [← HN.out]; exact hlt) (by rw [← HN.out]; exact htop) (by rw [← HN.out, show n - t = n - 1 - (t - 1) by omega]; exact hbot)
          go_wp2_with (first
            | ((with_reducible apply W_loadCell); rfl; exact M.kept.row HAB.out (by simp); exact HAT.out; exact Salg.underlying89; rfl; simp only [Act.put, List.setIfInBounds_toArray, List.set_cons_zero, List.set_cons_succ])
            | ((with_reducible apply W_buildIt (u := bot) (vs := #[bot]) (s := 1) M); rfl; exact one_cells HU1.out; exact Salg.underlying140; exact size89; exact zsome89; rfl; decide; decide; clear M; have HOWN2 := HOWN; intro bn2 w13 hbn2 hbn22 KB M; have hsz13 := KB.size; replace HOWN := hid (own_kept HOWN.out KB); have HBL := hid (own_new HOWN2.out hbn22); clear KB; simp only [Act.put, List.setIfInBounds_toArray, List.set_cons_zero, List.set_cons_succ])
            | ((with_reducible apply W_appendIt (base := base) (n := n - t + 1 + (t - 2 - 0)) (m := 1) (s := 1) (bn := bn2) (so := 0) (news := [bot]) (cs := #[bot]) M); exact info89; exact Salg.underlying140; rfl; decide; decide; rfl; rfl; exact HOWN.out; omega; exact M.r0; rfl; exact one_news _; exact one_one HU1.out; exact hb1; exact Nat.le_trans hb2 hsz13; exact apart1 HBL.out; clear M; intro VV w14 M xO hb3 KA; replace HOWN := hid xO; clear xO; clear KA; have HVV := hid (RowV.own HOWN.out); rw [HEN.out] at HVV; replace HR2 := hid (HR2.out.kept M.kept); replace M := M0.call M.kept; simp only [Act.put, List.setIfInBounds_toArray, List.set_cons_zero, List.set_cons_succ])
            | ((with_reducible apply W_stV (b := fb) (o := 8) (v := VV)); rfl; rfl; exact HVV.out.one; exact M.kept.row hr (by simp); exact size140; exact hsz8; intro w11 K1 hr11)
            | ((with_reducible apply W_stV (b := fb) (o := 3) (v := r2)); rfl; rfl; exact HR2.out.one; exact hr11; exact size89; (simp; omega); intro w12 K2 hr12))
          go_end0
          have hrow := M.kept.row hr (by simp)
          have KK := K1.trans K2
          exact ⟨_, VV, r2, rfl, (M.kept.mono (by simp)).trans KK, hr12, (by first | exact HVV.out.keptC KK hrow (by decide) | (rw [← HN.out]; exact HVV.out.keptC KK hrow (by decide))), HR2.out.keptC KK hrow HNB.out⟩
end Go.Proofs.YgcsalGreat

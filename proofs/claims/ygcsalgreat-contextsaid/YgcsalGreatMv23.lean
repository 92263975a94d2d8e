/-
  The walk of (*yp.State).plain at DUP.
-/
import Derived.Test.YgcsalGreatMv21
set_option linter.unusedSimpArgs false
set_option linter.unusedVariables false
namespace Go.Proofs.YgcsalGreat
open Go.RowKit Go.Own

set_option maxHeartbeats 4000000 in
set_option maxRecDepth 100000 in
theorem plain_dup (st : Value) (fb m : Nat) (o t g : Nat) (fs : Array Value) (pv sv : Value) (xs : List Value) (w : World) (hk : OpK o t g 0 3) (h128 : 128 ≤ o) (h143 : o ≤ 143) (ht1 : 1 ≤ t) (hr : w.heap[fb]? = some (.cells fs 142 (0, 0))) (h3 : fs[3]? = some pv) (hp : NumV w pv m) (h8 : fs[8]? = some sv) (hs : RowV w 89 sv xs) (h1 : ∀ u ∈ xs, u.oneCell' = true) (hl : xs.length ≤ 40) (hlt : t ≤ xs.length) (hm : m ≤ 1000) :
    Calls Salg.prog 120 #[st, .pointer (some ⟨fb, 0, none⟩), .int .u8 o] w fun e w' => ∃ r v' pv' u, e = .returned r ∧ Kept [fb] w w' ∧ w'.heap[fb]? = some (.cells ((fs.setIfInBounds 8 v').setIfInBounds 3 pv') 142 (0, 0)) ∧ RowV w' 89 v' (xs ++ [u]) ∧ NumV w' pv' (m + (1 + 0)) ∧ xs[xs.length - t]? = some u := by
  have M := Mem.start w []
  have HK := hid (hk)
  have deql86 : decide ((o : Int) = 86) = false := by simp; omega
  have deql87 : decide ((o : Int) = 87) = false := by simp; omega
  have dgeq128 : decide ((128 : Int) ≤ (o : Int)) = true := by simp; omega
  have dleq143 : decide ((o : Int) ≤ 143) = true := by simp; omega
  have dgeq144 : decide ((144 : Int) ≤ (o : Int)) = false := by simp; omega
  have dleq159 : decide ((o : Int) ≤ 159) = true := by simp; omega
  have ht17 := hk.ht
  have HP := hid hp
  have HS := hid hs
  have H1 := hid h1
  obtain ⟨p, cap, rfl⟩ : ∃ p cap, sv = .slice p xs.length cap := by
    rcases hs with ⟨rfl, rfl⟩ | ⟨g, cap, cur, rfl, _⟩
    · exact ⟨none, 0, rfl⟩
    · exact ⟨_, _, rfl⟩
  have HNB := hid (not_bytes_at (tc := 142) h8)
  have HCT := hid (HS.out.cut (xs.length - t) (by omega))
  have hcap := HCT.out.1
  have HT : Hid (TightV w 89 (.slice p (xs.length - t) (xs.length - t)) (xs.take (xs.length - t))) := HCT.out.2
  have HCT2 := hid (HS.out.cut xs.length (Nat.le_refl _))
  have hcap2 := HCT2.out.1
  have HT2 : Hid (TightV w 89 (.slice p xs.length xs.length) (xs.take xs.length)) := HCT2.out.2
  clear HCT2
  have HA := hid (fun w' (K : Kept [] w w') i (hi : i < xs.length) u hu => arg_any fb fs _ u xs i w' (K.row hr (by simp)) h8 (HS.out.kept K) hi hu (by omega))
  have HAS := hid (fun i u (hi : i < t) (hx : i < xs.length) hu => argsL_set (t := t) (u := u) hi hx hu)
  have HAL := hid (fun i (h : i ≤ xs.length) (hi : i ≤ t) => argsL_length (t := t) h hi)
  have HAZ := hid (argsL_zero xs (t))
  have HAA := hid (argsL_all xs (t))
  have hsz8 : 8 < fs.size := (Array.getElem?_eq_some_iff.1 h8).1
  clear hp hs h1 HCT
  have HXS : Hid (∀ i, i < xs.length → ∃ u, xs[xs.length - 1 - i]? = some u) := fun i hi => ⟨xs[xs.length - 1 - i], List.getElem?_eq_getElem (by omega)⟩
  obtain ⟨n, hn⟩ : ∃ n, n = xs.length := ⟨_, rfl⟩
  rw [← hn] at HT HA HAS HAL HXS hcap hl hlt h8 HT2 hcap2
  have HN := hid hn
  clear hn
  go_enter Salg.func120, Salg.ntmps120
  go_wp2_with fail
  refine (HK.out.ar _).mono ?_
  rintro e w1 ⟨rfl, hw⟩
  replace hw := hw.symm
  subst hw
  go_wp2_with ((with_reducible apply W_makeV (n := t) (s := 1) (cs := (List.replicate (t) (.slice none 0 0)).toArray) M); rfl; rfl; (first | rfl | omega); (first | rfl | omega); (first | decide | omega); exact Salg.underlying140; exact info89; rfl; decide; decide; decide; exact range1 _ _ rfl; clear M; intro ab w2 hab hab2 K M; rw [← HAZ.out] at M; clear K; simp only [Act.put, List.setIfInBounds_toArray, List.set_cons_zero, List.set_cons_succ])
  go_loopw [10, 24] (fun _ iv wr => ∃ i : Nat, i ≤ t ∧ iv = .int .i64 i ∧ Mem w [] [(ab, .cells (argsL xs i (t)).toArray 89 (0, 0))] wr) (fun _ iv _ => (((t : Nat) : Int) - intOf iv).toNat)
  case atStart => exact ⟨0, by omega, rfl, M⟩
  case round =>
    clear M
    obtain ⟨i, hi, rfl, M⟩ := hrel
    rcases Nat.lt_or_ge i (t) with hlt2 | hge
    · obtain ⟨u, hu⟩ := HXS.out i (by omega)
      have HAu := hid (HA.out _ M.kept i (by omega) u hu)
      have HAs := HAS.out i u hlt2 (by omega) hu
      have HAl := HAL.out i (by omega) (by omega)
      have hu1 := oneCell_mem H1.out hu
      have hsz3 : i < (argsL xs i (t)).toArray.size := by rw [List.size_toArray, HAl]; exact hlt2
      go_wp2_with fail
      refine (HAu.out).mono ?_
      rintro e w3 ⟨rfl, K⟩
      replace M := M.call K
      clear K
      go_wp2_with ((with_reducible apply W_stV (b := ab) (o := i) (v := u)); rfl; rfl; exact hu1; exact M.r0; exact size89; exact hsz3; intro w4 K hr4; rw [HAs] at hr4; replace M := Mem.callPut (L1 := []) M (Or.inr hab) K hr4; clear K hr4; simp only [List.nil_append] at M)
      go_roundw
      case rel => exact ⟨i + 1, by omega, by go_num, M⟩
      case measure => simp [intOf]; omega
    · have hit : t = i := by omega
      subst hit
      clear hge HA HAS HAL HXS
      rw [HAA.out] at M
      have HG := hid (fun i (hi : i < t) => args_get (t := t) (i := i) hi (by rw [← HN.out]; exact hlt))
      rw [← HN.out] at HG
      go_wp2_with fail
      refine S_region (by kernel_rfl) ?_
      refine E_stage 0 11 [0, 1, 2, 3, 4, 5, 6, 7, 8, 9, 10] (by kernel_rfl) M.drew ?_
      clear M
      simp only [List.filterMap_cons, List.filterMap_nil, List.getElem?_cons_zero, List.getElem?_cons_succ]
      ((with_reducible apply E_run); rfl; rfl; (intro w M; go_simp; (try go_ints); (try simp only [↓IntWalk.iteOmega]); (try with_reducible rfl)); simp only [Act.put, List.setIfInBounds_toArray, List.set_cons_zero, List.set_cons_succ])
      ((with_reducible apply E_run); rfl; rfl; (intro w M; go_simp; (try go_ints); (try simp only [↓IntWalk.iteOmega]); (try with_reducible rfl)); simp only [Act.put, List.setIfInBounds_toArray, List.set_cons_zero, List.set_cons_succ])
      ((with_reducible apply E_run); rfl; rfl; (intro w M; go_simp; (try go_ints); (try simp only [↓IntWalk.iteOmega]); (try with_reducible rfl)); simp only [Act.put, List.setIfInBounds_toArray, List.set_cons_zero, List.set_cons_succ])
      ((with_reducible apply E_run); rfl; rfl; (intro w M; exact run_loadCell (M.kept.row hr (by simp)) rfl h3 Salg.underlying89 rfl); simp only [Act.put, List.setIfInBounds_toArray, List.set_cons_zero, List.set_cons_succ])
      ((with_reducible apply E_run); rfl; rfl; (intro w M; go_simp; (try go_ints); (try simp only [↓IntWalk.iteOmega]); (try with_reducible rfl)); simp only [Act.put, List.setIfInBounds_toArray, List.set_cons_zero, List.set_cons_succ])
      refine E_call rfl Salg.func195 (by kernel_rfl) (by kernel_rfl) (args := [.int .u8 o]) rfl ?_
      intro w1 K M
      clear K
      refine (HK.out.im _).mono ?_
      rintro e w4 ⟨rfl, hw⟩
      replace hw := hw.symm
      subst hw
      refine ⟨_, rfl, trivial, M, ?_⟩
      simp only [Act.put, List.setIfInBounds_toArray, List.set_cons_zero, List.set_cons_succ]
      ((with_reducible apply E_run); rfl; rfl; (intro w M; go_simp; (try go_ints); (try simp only [↓IntWalk.iteOmega]); (try with_reducible rfl)); simp only [Act.put, List.setIfInBounds_toArray, List.set_cons_zero, List.set_cons_succ])
      ((with_reducible apply E_run); rfl; rfl; (intro w M; go_simp; (try go_ints); (try simp only [↓IntWalk.iteOmega]); (try with_reducible rfl)); simp only [Act.put, List.setIfInBounds_toArray, List.set_cons_zero, List.set_cons_succ])
      refine E_call rfl Salg.func87 (by kernel_rfl) (by kernel_rfl) (args := [.int .u64 (((1 + 0 : Nat)) : Int)]) rfl ?_
      intro w1 K M
      clear K
      refine (num_int _ (1 + 0) (by rfl) (by omega) _).mono ?_
      rintro e w5 ⟨r1, rfl, xHR1, K⟩
      have HR1 := hid xHR1
      clear xHR1
      replace M := M.call K
      refine ⟨_, rfl, trivial, M, ?_⟩
      clear K
      simp only [Act.put, List.setIfInBounds_toArray, List.set_cons_zero, List.set_cons_succ]
      refine E_call rfl Salg.func68 (by kernel_rfl) (by kernel_rfl) (args := [pv, r1]) rfl ?_
      intro w1 K M
      replace HR1 := hid (HR1.out.kept K)
      clear K
      refine (add_num _ _ _ _ _ (HP.out.kept M.kept) HR1.out (by omega) (by omega)).mono ?_
      rintro e w6 ⟨r2, rfl, xHR2, K⟩
      have HR2 := hid xHR2
      clear xHR2
      replace HR1 := hid (HR1.out.kept K)
      replace M := M.call K
      refine ⟨_, rfl, trivial, M, ?_⟩
      clear K
      simp only [Act.put, List.setIfInBounds_toArray, List.set_cons_zero, List.set_cons_succ]
      ((with_reducible apply E_run); rfl; rfl; (intro w M; go_simp; (try go_ints); (try simp only [↓IntWalk.iteOmega]); (try with_reducible rfl)); simp only [Act.put, List.setIfInBounds_toArray, List.set_cons_zero, List.set_cons_succ])
      refine E_nil ?_
      intro w9 K M
      replace HR2 := hid (HR2.out.kept K)
      clear K
      refine S_done ?_
      go_wp2_with fail
      refine S_region (by kernel_rfl) ?_
      replace HR2 := hid (HR2.out.kept (Kept.refl [] _).drew)
      refine E_stage 0 20 [0, 1, 2, 3, 4, 5, 6, 7, 8, 9, 10, 11, 12, 13, 14, 15, 16, 17, 18, 19] (by kernel_rfl) M.drew ?_
      clear M
      simp only [List.filterMap_cons, List.filterMap_nil, List.getElem?_cons_zero, List.getElem?_cons_succ]
      ((with_reducible apply E_run); rfl; rfl; (intro w M; go_simp; (try go_ints); (try simp only [↓IntWalk.iteOmega]); (try with_reducible rfl)); simp only [Act.put, List.setIfInBounds_toArray, List.set_cons_zero, List.set_cons_succ])
      ((with_reducible apply E_run); rfl; rfl; (intro w M; go_simp; (try go_ints); (try simp only [↓IntWalk.iteOmega]); (try with_reducible rfl)); simp only [Act.put, List.setIfInBounds_toArray, List.set_cons_zero, List.set_cons_succ])
      ((with_reducible apply E_run); rfl; rfl; (intro w M; go_simp; (try go_ints); (try simp only [↓IntWalk.iteOmega]); (try with_reducible rfl)); simp only [Act.put, List.setIfInBounds_toArray, List.set_cons_zero, List.set_cons_succ])
      ((with_reducible apply E_run); rfl; rfl; (intro w M; exact run_loadCell (M.kept.row hr (by simp)) rfl h8 Salg.underlying140 rfl); simp only [Act.put, List.setIfInBounds_toArray, List.set_cons_zero, List.set_cons_succ])
      ((with_reducible apply E_run); rfl; rfl; (intro w M; go_simp; (try go_ints); (try simp only [↓IntWalk.iteOmega]); (try with_reducible rfl)); simp only [Act.put, List.setIfInBounds_toArray, List.set_cons_zero, List.set_cons_succ])
      ((with_reducible apply E_run); rfl; rfl; (intro w M; go_simp; (try go_ints); (try simp only [↓IntWalk.iteOmega]); (try with_reducible rfl)); simp only [Act.put, List.setIfInBounds_toArray, List.set_cons_zero, List.set_cons_succ])
      ((with_reducible apply E_run); rfl; rfl; (intro w M; go_simp; (try go_ints); (try simp only [↓IntWalk.iteOmega]); (try with_reducible rfl)); simp only [Act.put, List.setIfInBounds_toArray, List.set_cons_zero, List.set_cons_succ])
      ((with_reducible apply E_run); rfl; rfl; (intro w M; exact run_loadCell (M.kept.row hr (by simp)) rfl h8 Salg.underlying140 rfl); simp only [Act.put, List.setIfInBounds_toArray, List.set_cons_zero, List.set_cons_succ])
      ((with_reducible apply E_run); rfl; rfl; (intro w M; go_simp; (try go_ints); (try simp only [↓IntWalk.iteOmega]); (try with_reducible rfl)); simp only [Act.put, List.setIfInBounds_toArray, List.set_cons_zero, List.set_cons_succ])
      ((with_reducible apply E_run); rfl; rfl; (intro w M; go_simp; (try go_ints); (try simp only [↓IntWalk.iteOmega]); (try with_reducible rfl)); simp only [Act.put, List.setIfInBounds_toArray, List.set_cons_zero, List.set_cons_succ])
      ((with_reducible apply E_run); rfl; rfl; (intro w M; go_simp; (try go_ints); (try simp only [↓IntWalk.iteOmega]); (try with_reducible rfl)); simp only [Act.put, List.setIfInBounds_toArray, List.set_cons_zero, List.set_cons_succ])
      ((with_reducible apply E_run); rfl; rfl; (intro w M; go_simp; (try go_ints); (try simp only [↓IntWalk.iteOmega]); (try with_reducible rfl)); simp only [Act.put, List.setIfInBounds_toArray, List.set_cons_zero, List.set_cons_succ])
      ((with_reducible apply E_run); rfl; rfl; (intro w M; go_simp; (try go_ints); (try simp only [↓IntWalk.iteOmega]); (try with_reducible rfl)); simp only [Act.put, List.setIfInBounds_toArray, List.set_cons_zero, List.set_cons_succ])
      ((with_reducible apply E_run); rfl; rfl; (intro w M; go_simp; (try go_ints); (try simp only [↓IntWalk.iteOmega]); (try with_reducible rfl)); simp only [Act.put, List.setIfInBounds_toArray, List.set_cons_zero, List.set_cons_succ])
      ((with_reducible apply E_run); rfl; rfl; (intro w M; exact run_loadCell (M.kept.row hr (by simp)) rfl h8 Salg.underlying140 rfl); simp only [Act.put, List.setIfInBounds_toArray, List.set_cons_zero, List.set_cons_succ])
      ((with_reducible apply E_run); rfl; rfl; (intro w M; go_simp; (try go_ints); (try simp only [↓IntWalk.iteOmega]); (try with_reducible rfl)); simp only [Act.put, List.setIfInBounds_toArray, List.set_cons_zero, List.set_cons_succ])
      ((with_reducible apply E_run); rfl; rfl; (intro w M; go_simp; (try go_ints); (try simp only [↓IntWalk.iteOmega]); (try with_reducible rfl)); simp only [Act.put, List.setIfInBounds_toArray, List.set_cons_zero, List.set_cons_succ])
      ((with_reducible apply E_run); rfl; rfl; (intro w M; go_simp; (try go_ints); (try simp only [↓IntWalk.iteOmega]); (try with_reducible rfl)); simp only [Act.put, List.setIfInBounds_toArray, List.set_cons_zero, List.set_cons_succ])
      ((with_reducible apply E_run); rfl; rfl; (intro w M; exact run_slice3 (n := n - t) rfl rfl rfl (by omega) (by omega) Salg.underlying140 ⟨1, size89⟩ hcap); simp only [Act.put, List.setIfInBounds_toArray, List.set_cons_zero, List.set_cons_succ])
      ((with_reducible apply E_run); rfl; rfl; (intro w M; go_simp; (try go_ints); (try simp only [↓IntWalk.iteOmega]); (try with_reducible rfl)); simp only [Act.put, List.setIfInBounds_toArray, List.set_cons_zero, List.set_cons_succ])
      refine E_nil ?_
      intro w10 K M
      replace HR2 := hid (HR2.out.kept K)
      clear K
      refine S_done ?_
      go_wp2_with fail
      obtain ⟨u, hu⟩ : ∃ u, xs[n - 1 - (t - 1)]? = some u := ⟨xs[n - 1 - (t - 1)]'(by rw [← HN.out]; omega), List.getElem?_eq_getElem (by rw [← HN.out]; omega)⟩
      have HUT : Hid ((xs.reverse.take t).toArray[t - 1]? = some u) := by
        show _ = _
        rw [List.getElem?_toArray, HG.out (t - 1) (by omega)]
        exact hu
      have HU1 := hid (oneCell_mem H1.out hu)
      have HUE : Hid (xs[xs.length - t]? = some u) := by
        show _ = _
        rw [← HN.out, show n - t = n - 1 - (t - 1) by omega]
        exact hu
      clear hu
      refine S_region (by kernel_rfl) ?_
      replace HR2 := hid (HR2.out.kept (Kept.refl [] _).drew)
      refine E_stage 0 23 [0, 1, 2, 3, 4, 5, 6, 7, 8, 9, 10, 11, 12, 13, 14, 15, 16, 17, 18, 19, 20, 21, 22] (by kernel_rfl) M.drew ?_
      clear M
      simp only [List.filterMap_cons, List.filterMap_nil, List.getElem?_cons_zero, List.getElem?_cons_succ]
      ((with_reducible apply E_run); rfl; rfl; (intro w M; go_simp; (try go_ints); (try simp only [↓IntWalk.iteOmega]); (try with_reducible rfl)); simp only [Act.put, List.setIfInBounds_toArray, List.set_cons_zero, List.set_cons_succ])
      ((with_reducible apply E_run); rfl; rfl; (intro w M; go_simp; (try go_ints); (try simp only [↓IntWalk.iteOmega]); (try with_reducible rfl)); simp only [Act.put, List.setIfInBounds_toArray, List.set_cons_zero, List.set_cons_succ])
      ((with_reducible apply E_run); rfl; rfl; (intro w M; go_simp; (try go_ints); (try simp only [↓IntWalk.iteOmega]); (try with_reducible rfl)); simp only [Act.put, List.setIfInBounds_toArray, List.set_cons_zero, List.set_cons_succ])
      ((with_reducible apply E_run); rfl; rfl; (intro w M; exact run_loadCell (M.kept.row hr (by simp)) rfl h8 Salg.underlying140 rfl); simp only [Act.put, List.setIfInBounds_toArray, List.set_cons_zero, List.set_cons_succ])
      ((with_reducible apply E_run); rfl; rfl; (intro w M; go_simp; (try go_ints); (try simp only [↓IntWalk.iteOmega]); (try with_reducible rfl)); simp only [Act.put, List.setIfInBounds_toArray, List.set_cons_zero, List.set_cons_succ])
      ((with_reducible apply E_run); rfl; rfl; (intro w M; go_simp; (try go_ints); (try simp only [↓IntWalk.iteOmega]); (try with_reducible rfl)); simp only [Act.put, List.setIfInBounds_toArray, List.set_cons_zero, List.set_cons_succ])
      ((with_reducible apply E_run); rfl; rfl; (intro w M; go_simp; (try go_ints); (try simp only [↓IntWalk.iteOmega]); (try with_reducible rfl)); simp only [Act.put, List.setIfInBounds_toArray, List.set_cons_zero, List.set_cons_succ])
      ((with_reducible apply E_run); rfl; rfl; (intro w M; exact run_loadCell (M.kept.row hr (by simp)) rfl h8 Salg.underlying140 rfl); simp only [Act.put, List.setIfInBounds_toArray, List.set_cons_zero, List.set_cons_succ])
      ((with_reducible apply E_run); rfl; rfl; (intro w M; go_simp; (try go_ints); (try simp only [↓IntWalk.iteOmega]); (try with_reducible rfl)); simp only [Act.put, List.setIfInBounds_toArray, List.set_cons_zero, List.set_cons_succ])
      ((with_reducible apply E_run); rfl; rfl; (intro w M; go_simp; (try go_ints); (try simp only [↓IntWalk.iteOmega]); (try with_reducible rfl)); simp only [Act.put, List.setIfInBounds_toArray, List.set_cons_zero, List.set_cons_succ])
      ((with_reducible apply E_run); rfl; rfl; (intro w M; go_simp; (try go_ints); (try simp only [↓IntWalk.iteOmega]); (try with_reducible rfl)); simp only [Act.put, List.setIfInBounds_toArray, List.set_cons_zero, List.set_cons_succ])
      ((with_reducible apply E_run); rfl; rfl; (intro w M; go_simp; (try go_ints); (try simp only [↓IntWalk.iteOmega]); (try with_reducible rfl)); simp only [Act.put, List.setIfInBounds_toArray, List.set_cons_zero, List.set_cons_succ])
      ((with_reducible apply E_run); rfl; rfl; (intro w M; exact run_loadCell (M.kept.row hr (by simp)) rfl h8 Salg.underlying140 rfl); simp only [Act.put, List.setIfInBounds_toArray, List.set_cons_zero, List.set_cons_succ])
      ((with_reducible apply E_run); rfl; rfl; (intro w M; go_simp; (try go_ints); (try simp only [↓IntWalk.iteOmega]); (try with_reducible rfl)); simp only [Act.put, List.setIfInBounds_toArray, List.set_cons_zero, List.set_cons_succ])
      ((with_reducible apply E_run); rfl; rfl; (intro w M; exact run_slice3 (n := n) rfl rfl rfl (by omega) (by omega) Salg.underlying140 ⟨1, size89⟩ hcap2); simp only [Act.put, List.setIfInBounds_toArray, List.set_cons_zero, List.set_cons_succ])
      ((with_reducible apply E_run); rfl; rfl; (intro w M; go_simp; (try go_ints); (try simp only [↓IntWalk.iteOmega]); (try with_reducible rfl)); simp only [Act.put, List.setIfInBounds_toArray, List.set_cons_zero, List.set_cons_succ])
      ((with_reducible apply E_run); rfl; rfl; (intro w M; go_simp; (try go_ints); (try simp only [↓IntWalk.iteOmega]); (try with_reducible rfl)); simp only [Act.put, List.setIfInBounds_toArray, List.set_cons_zero, List.set_cons_succ])
      ((with_reducible apply E_run); rfl; rfl; (intro w M; go_simp; (try go_ints); (try simp only [↓IntWalk.iteOmega]); (try with_reducible rfl)); simp only [Act.put, List.setIfInBounds_toArray, List.set_cons_zero, List.set_cons_succ])
      ((with_reducible apply E_run); rfl; rfl; (intro w M; go_simp; (try go_ints); (try simp only [↓IntWalk.iteOmega]); (try with_reducible rfl)); simp only [Act.put, List.setIfInBounds_toArray, List.set_cons_zero, List.set_cons_succ])
      ((with_reducible apply E_run); rfl; rfl; (intro w M; exact run_loadCell (M.r0) rfl HUT.out Salg.underlying89 rfl); simp only [Act.put, List.setIfInBounds_toArray, List.set_cons_zero, List.set_cons_succ])
      refine E_buildIt (u := u) (vs := #[u]) (s := 1) rfl (one_cells HU1.out) Salg.underlying140 size89 zsome89 rfl (by decide) (by decide) ?_
      intro bn w11 w12 K1 hbn hbn2 K2 M
      replace HR2 := hid ((HR2.out.kept K1).kept K2)
      clear K1 K2 hbn2
      simp only [Act.put, List.setIfInBounds_toArray, List.set_cons_zero, List.set_cons_succ]
      refine E_appendK (bn := bn) (u := u) (xs := xs.take n) info89 Salg.underlying140 rfl (by decide) rfl rfl (HT2.out.kept M.kept) (by simp; omega) M.r0 HU1.out ?_
      clear M
      intro VV w13 w14 K1 M xO K2
      have HOWN := hid xO
      clear xO
      replace HR2 := hid ((HR2.out.kept K1).kept K2)
      clear K1 K2
      simp only [Act.put, List.setIfInBounds_toArray, List.set_cons_zero, List.set_cons_succ]
      ((with_reducible apply E_run); rfl; rfl; (intro w M; go_simp; (try go_ints); (try simp only [↓IntWalk.iteOmega]); (try with_reducible rfl)); simp only [Act.put, List.setIfInBounds_toArray, List.set_cons_zero, List.set_cons_succ])
      refine E_nil ?_
      intro w15 K M
      replace HR2 := hid (HR2.out.kept K)
      replace HOWN := hid (own_kept HOWN.out K)
      clear K
      have HVV := hid (own_push HOWN.out HN.out)
      refine S_done ?_
      go_wp2_with (first
        | ((with_reducible apply W_stV (b := fb) (o := 8) (v := VV)); rfl; rfl; exact HVV.out.one; exact M.kept.row hr (by simp); exact size140; exact hsz8; intro w11 K1 hr11)
        | ((with_reducible apply W_stV (b := fb) (o := 3) (v := r2)); rfl; rfl; exact HR2.out.one; exact hr11; exact size89; (simp; omega); intro w12 K2 hr12))
      go_end0
      have hrow := M.kept.row hr (by simp)
      have KK := K1.trans K2
      exact ⟨_, VV, r2, u, rfl, (M.kept.mono (by simp)).trans KK, hr12, (by first | exact HVV.out.keptC KK hrow (by decide) | (rw [← HN.out]; exact HVV.out.keptC KK hrow (by decide))), HR2.out.keptC KK hrow HNB.out, HUE.out⟩
end Go.Proofs.YgcsalGreat

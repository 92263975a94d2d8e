/-
  The walk of (*yp.State).plain at PUSH.
-/
import Derived.Test.YgcsalGreatMv21
set_option linter.unusedSimpArgs false
set_option linter.unusedVariables false
namespace Go.Proofs.YgcsalGreat
open Go.RowKit Go.Own

set_option maxHeartbeats 4000000 in
set_option maxRecDepth 100000 in
theorem plain_push (st : Value) (fb m : Nat) (o i c : Nat) (cv : Value) (ds : List Nat) (fs : Array Value) (pv sv : Value) (xs : List Value) (w : World) (hk : OpK o 0 1 i c) (h95 : 95 ≤ o) (h127 : o ≤ 127) (hr : w.heap[fb]? = some (.cells fs 142 (0, 0))) (h3 : fs[3]? = some pv) (hp : NumV w pv m) (h8 : fs[8]? = some sv) (hs : RowV w 89 sv xs) (h1 : ∀ u ∈ xs, u.oneCell' = true) (hl : xs.length ≤ 40) (hlt : 0 ≤ xs.length) (hm : m ≤ 1000) (h10 : fs[10]? = some cv) (hc : NatV w cv ds) (hl2 : ds.length ≤ 1000) :
    Calls Salg.prog 120 #[st, .pointer (some ⟨fb, 0, none⟩), .int .u8 o] w fun e w' => ∃ r v' pv' u, e = .returned r ∧ Kept [fb] w w' ∧ w'.heap[fb]? = some (.cells ((fs.setIfInBounds 8 v').setIfInBounds 3 pv') 142 (0, 0)) ∧ RowV w' 89 v' (xs ++ [u]) ∧ NumV w' pv' (m + (1 + i)) ∧ NumV w' u (be (cutB ds (m + 1) i)) := by
  have M := Mem.start w []
  have HK := hid (hk)
  have deql86 : decide ((o : Int) = 86) = false := by simp; omega
  have deql87 : decide ((o : Int) = 87) = false := by simp; omega
  have dgeq128 : decide ((128 : Int) ≤ (o : Int)) = false := by simp; omega
  have dleq143 : decide ((o : Int) ≤ 143) = true := by simp; omega
  have dgeq144 : decide ((144 : Int) ≤ (o : Int)) = false := by simp; omega
  have dleq159 : decide ((o : Int) ≤ 159) = true := by simp; omega
  have hi32 := hk.hi
  have HP := hid hp
  have HS := hid hs
  have H1 := hid h1
  obtain ⟨p, cap, rfl⟩ : ∃ p cap, sv = .slice p xs.length cap := by
    rcases hs with ⟨rfl, rfl⟩ | ⟨g, cap, cur, rfl, _⟩
    · exact ⟨none, 0, rfl⟩
    · exact ⟨_, _, rfl⟩
  have HNB := hid (not_bytes_at (tc := 142) h8)
  have HCT := hid (HS.out.cut (xs.length - 0) (by omega))
  have hcap := HCT.out.1
  have HT : Hid (TightV w 89 (.slice p (xs.length - 0) (xs.length - 0)) (xs.take (xs.length - 0))) := HCT.out.2
  have HA := hid (fun w' (K : Kept [] w w') i (hi : i < xs.length) u hu => arg_any fb fs _ u xs i w' (K.row hr (by simp)) h8 (HS.out.kept K) hi hu (by omega))
  have HAS := hid (fun i u (hi : i < 0) (hx : i < xs.length) hu => argsL_set (t := 0) (u := u) hi hx hu)
  have HAL := hid (fun i (h : i ≤ xs.length) (hi : i ≤ 0) => argsL_length (t := 0) h hi)
  have HAZ := hid (argsL_zero xs (0))
  have HAA := hid (argsL_all xs (0))
  have hsz8 : 8 < fs.size := (Array.getElem?_eq_some_iff.1 h8).1
  clear hp hs h1 HCT
  have HXS : Hid (∀ i, i < xs.length → ∃ u, xs[xs.length - 1 - i]? = some u) := fun i hi => ⟨xs[xs.length - 1 - i], List.getElem?_eq_getElem (by omega)⟩
  obtain ⟨n, hn⟩ : ∃ n, n = xs.length := ⟨_, rfl⟩
  rw [← hn] at HT HA HAS HAL HXS hcap hl hlt h8
  have HN := hid hn
  clear hn
  go_enter Salg.func120, Salg.ntmps120
  go_wp2_with fail
  refine (HK.out.ar _).mono ?_
  rintro e w1 ⟨rfl, hw⟩
  replace hw := hw.symm
  subst hw
  go_wp2_with ((with_reducible apply W_makeV (n := 0) (s := 1) (cs := (List.replicate (0) (.slice none 0 0)).toArray) M); rfl; rfl; (first | rfl | omega); (first | rfl | omega); (first | decide | omega); exact Salg.underlying140; exact info89; rfl; decide; decide; decide; exact range1 _ _ rfl; clear M; intro ab w2 hab hab2 K M; rw [← HAZ.out] at M; clear K; simp only [Act.put, List.setIfInBounds_toArray, List.set_cons_zero, List.set_cons_succ])
  go_loopw [10, 24] (fun _ iv wr => ∃ i : Nat, i ≤ 0 ∧ iv = .int .i64 i ∧ Mem w [] [(ab, .cells (argsL xs i (0)).toArray 89 (0, 0))] wr) (fun _ iv _ => (((0 : Nat) : Int) - intOf iv).toNat)
  case atStart => exact ⟨0, by omega, rfl, M⟩
  case round =>
    clear M
    obtain ⟨i, hi, rfl, M⟩ := hrel
    rcases Nat.lt_or_ge i (0) with hlt2 | hge
    · exact absurd hlt2 (by omega)
    · have hit : 0 = i := by omega
      subst hit
      clear hge HA HAS HAL HXS
      rw [HAA.out] at M
      have HG := hid (fun i (hi : i < 0) => args_get (t := 0) (i := i) hi (by rw [← HN.out]; exact hlt))
      rw [← HN.out] at HG
      go_wp2_with fail
      refine S_region (by kernel_rfl) ?_
      refine E_stage 0 11 [0, 1, 2, 3, 4, 5, 6, 7, 8, 9, 10] (by kernel_rfl) M.drew ?_
      clear M
      simp only [List.filterMap_cons, List.filterMap_nil, List.getElem?_cons_zero, List.getElem?_cons_succ]
      ((with_reducible apply E_run); rfl; rfl; (intro w M; go_simp; (try go_ints); (try simp only [↓IntWalk.iteOmega]); (try with_reducible rfl)); simp only [Act.put, List.setIfInBounds_toArray, List.set_cons_zero, List.set_cons_succ])
      ((with_reducible apply E_run); rfl; rfl; (intro w M; go_simp; (try go_ints); (try simp only [↓IntWalk.iteOmega]); (try with_reducible rfl)); simp only [Act.put, List.setIfInBounds_toArray, List.set_cons_zero, List.set_cons_succ])
      ((with_reducible apply E_run); rfl; rfl; (intro w M; go_simp; (try go_ints); (try simp only [↓IntWalk.iteOmega]); (try with_reducible rfl)); simp only [Act.put, List.setIfInBounds_toArray, List.set_cons_zero, List.set_cons_succ])
      ((with_reducible apply E_run); rfl; rfl; (intro w M; exact run_loadCell (M.kept.row hr (by simp)) rfl h3 Salg.underlying89 rfl); simp only [Act.put, List.setIfInBounds_toArray, List.set_cons_zero, List.set_cons_succ])
      ((with_reducible apply E_run); rfl; rfl; (intro w M; go_simp; (try go_ints); (try simp only [↓IntWalk.iteOmega]); (try with_reducible rfl)); simp only [Act.put, List.setIfInBounds_toArray, List.set_cons_zero, List.set_cons_succ])
      refine E_call rfl Salg.func195 (by kernel_rfl) (by kernel_rfl) (args := [.int .u8 o]) rfl ?_
      intro w1 K M
      clear K
      refine (HK.out.im _).mono ?_
      rintro e w4 ⟨rfl, hw⟩
      replace hw := hw.symm
      subst hw
      refine ⟨_, rfl, trivial, M, ?_⟩
      simp only [Act.put, List.setIfInBounds_toArray, List.set_cons_zero, List.set_cons_succ]
      ((with_reducible apply E_run); rfl; rfl; (intro w M; go_simp; (try go_ints); (try simp only [↓IntWalk.iteOmega]); (try with_reducible rfl)); simp only [Act.put, List.setIfInBounds_toArray, List.set_cons_zero, List.set_cons_succ])
      ((with_reducible apply E_run); rfl; rfl; (intro w M; go_simp; (try go_ints); (try simp only [↓IntWalk.iteOmega]); (try with_reducible rfl)); simp only [Act.put, List.setIfInBounds_toArray, List.set_cons_zero, List.set_cons_succ])
      refine E_call rfl Salg.func87 (by kernel_rfl) (by kernel_rfl) (args := [.int .u64 (((1 + i : Nat)) : Int)]) rfl ?_
      intro w1 K M
      clear K
      refine (num_int _ (1 + i) (by rfl) (by omega) _).mono ?_
      rintro e w5 ⟨r1, rfl, xHR1, K⟩
      have HR1 := hid xHR1
      clear xHR1
      replace M := M.call K
      refine ⟨_, rfl, trivial, M, ?_⟩
      clear K
      simp only [Act.put, List.setIfInBounds_toArray, List.set_cons_zero, List.set_cons_succ]
      refine E_call rfl Salg.func68 (by kernel_rfl) (by kernel_rfl) (args := [pv, r1]) rfl ?_
      intro w1 K M
      replace HR1 := hid (HR1.out.kept K)
      clear K
      refine (add_num _ _ _ _ _ (HP.out.kept M.kept) HR1.out (by omega) (by omega)).mono ?_
      rintro e w6 ⟨r2, rfl, xHR2, K⟩
      have HR2 := hid xHR2
      clear xHR2
      replace HR1 := hid (HR1.out.kept K)
      replace M := M.call K
      refine ⟨_, rfl, trivial, M, ?_⟩
      clear K
      simp only [Act.put, List.setIfInBounds_toArray, List.set_cons_zero, List.set_cons_succ]
      ((with_reducible apply E_run); rfl; rfl; (intro w M; go_simp; (try go_ints); (try simp only [↓IntWalk.iteOmega]); (try with_reducible rfl)); simp only [Act.put, List.setIfInBounds_toArray, List.set_cons_zero, List.set_cons_succ])
      refine E_nil ?_
      intro w9 K M
      replace HR2 := hid (HR2.out.kept K)
      clear K
      refine S_done ?_
      go_wp2_with fail
      refine S_region (by kernel_rfl) ?_
      replace HR2 := hid (HR2.out.kept (Kept.refl [] _).drew)
      refine E_stage 0 20 [0, 1, 2, 3, 4, 5, 6, 7, 8, 9, 10, 11, 12, 13, 14, 15, 16, 17, 18, 19] (by kernel_rfl) M.drew ?_
      clear M
      simp only [List.filterMap_cons, List.filterMap_nil, List.getElem?_cons_zero, List.getElem?_cons_succ]
      ((with_reducible apply E_run); rfl; rfl; (intro w M; go_simp; (try go_ints); (try simp only [↓IntWalk.iteOmega]); (try with_reducible rfl)); simp only [Act.put, List.setIfInBounds_toArray, List.set_cons_zero, List.set_cons_succ])
      ((with_reducible apply E_run); rfl; rfl; (intro w M; go_simp; (try go_ints); (try simp only [↓IntWalk.iteOmega]); (try with_reducible rfl)); simp only [Act.put, List.setIfInBounds_toArray, List.set_cons_zero, List.set_cons_succ])
      ((with_reducible apply E_run); rfl; rfl; (intro w M; go_simp; (try go_ints); (try simp only [↓IntWalk.iteOmega]); (try with_reducible rfl)); simp only [Act.put, List.setIfInBounds_toArray, List.set_cons_zero, List.set_cons_succ])
      ((with_reducible apply E_run); rfl; rfl; (intro w M; exact run_loadCell (M.kept.row hr (by simp)) rfl h8 Salg.underlying140 rfl); simp only [Act.put, List.setIfInBounds_toArray, List.set_cons_zero, List.set_cons_succ])
      ((with_reducible apply E_run); rfl; rfl; (intro w M; go_simp; (try go_ints); (try simp only [↓IntWalk.iteOmega]); (try with_reducible rfl)); simp only [Act.put, List.setIfInBounds_toArray, List.set_cons_zero, List.set_cons_succ])
      ((with_reducible apply E_run); rfl; rfl; (intro w M; go_simp; (try go_ints); (try simp only [↓IntWalk.iteOmega]); (try with_reducible rfl)); simp only [Act.put, List.setIfInBounds_toArray, List.set_cons_zero, List.set_cons_succ])
      ((with_reducible apply E_run); rfl; rfl; (intro w M; go_simp; (try go_ints); (try simp only [↓IntWalk.iteOmega]); (try with_reducible rfl)); simp only [Act.put, List.setIfInBounds_toArray, List.set_cons_zero, List.set_cons_succ])
      ((with_reducible apply E_run); rfl; rfl; (intro w M; exact run_loadCell (M.kept.row hr (by simp)) rfl h8 Salg.underlying140 rfl); simp only [Act.put, List.setIfInBounds_toArray, List.set_cons_zero, List.set_cons_succ])
      ((with_reducible apply E_run); rfl; rfl; (intro w M; go_simp; (try go_ints); (try simp only [↓IntWalk.iteOmega]); (try with_reducible rfl)); simp only [Act.put, List.setIfInBounds_toArray, List.set_cons_zero, List.set_cons_succ])
      ((with_reducible apply E_run); rfl; rfl; (intro w M; go_simp; (try go_ints); (try simp only [↓IntWalk.iteOmega]); (try with_reducible rfl)); simp only [Act.put, List.setIfInBounds_toArray, List.set_cons_zero, List.set_cons_succ])
      ((with_reducible apply E_run); rfl; rfl; (intro w M; go_simp; (try go_ints); (try simp only [↓IntWalk.iteOmega]); (try with_reducible rfl)); simp only [Act.put, List.setIfInBounds_toArray, List.set_cons_zero, List.set_cons_succ])
      ((with_reducible apply E_run); rfl; rfl; (intro w M; go_simp; (try go_ints); (try simp only [↓IntWalk.iteOmega]); (try with_reducible rfl)); simp only [Act.put, List.setIfInBounds_toArray, List.set_cons_zero, List.set_cons_succ])
      ((with_reducible apply E_run); rfl; rfl; (intro w M; go_simp; (try go_ints); (try simp only [↓IntWalk.iteOmega]); (try with_reducible rfl)); simp only [Act.put, List.setIfInBounds_toArray, List.set_cons_zero, List.set_cons_succ])
      ((with_reducible apply E_run); rfl; rfl; (intro w M; go_simp; (try go_ints); (try simp only [↓IntWalk.iteOmega]); (try with_reducible rfl)); simp only [Act.put, List.setIfInBounds_toArray, List.set_cons_zero, List.set_cons_succ])
      ((with_reducible apply E_run); rfl; rfl; (intro w M; exact run_loadCell (M.kept.row hr (by simp)) rfl h8 Salg.underlying140 rfl); simp only [Act.put, List.setIfInBounds_toArray, List.set_cons_zero, List.set_cons_succ])
      ((with_reducible apply E_run); rfl; rfl; (intro w M; go_simp; (try go_ints); (try simp only [↓IntWalk.iteOmega]); (try with_reducible rfl)); simp only [Act.put, List.setIfInBounds_toArray, List.set_cons_zero, List.set_cons_succ])
      ((with_reducible apply E_run); rfl; rfl; (intro w M; go_simp; (try go_ints); (try simp only [↓IntWalk.iteOmega]); (try with_reducible rfl)); simp only [Act.put, List.setIfInBounds_toArray, List.set_cons_zero, List.set_cons_succ])
      ((with_reducible apply E_run); rfl; rfl; (intro w M; go_simp; (try go_ints); (try simp only [↓IntWalk.iteOmega]); (try with_reducible rfl)); simp only [Act.put, List.setIfInBounds_toArray, List.set_cons_zero, List.set_cons_succ])
      ((with_reducible apply E_run); rfl; rfl; (intro w M; exact run_slice3 (n := n - 0) rfl rfl rfl (by omega) (by omega) Salg.underlying140 ⟨1, size89⟩ hcap); simp only [Act.put, List.setIfInBounds_toArray, List.set_cons_zero, List.set_cons_succ])
      ((with_reducible apply E_run); rfl; rfl; (intro w M; go_simp; (try go_ints); (try simp only [↓IntWalk.iteOmega]); (try with_reducible rfl)); simp only [Act.put, List.setIfInBounds_toArray, List.set_cons_zero, List.set_cons_succ])
      refine E_nil ?_
      intro w10 K M
      replace HR2 := hid (HR2.out.kept K)
      clear K
      refine S_done ?_
      go_wp2_with fail
      have HC := hid hc
      clear hc
      refine (value_push _ fb o i c m fs _ _ ds _ _ _ HK.out (by omega) (by omega) (M.kept.row hr (by simp)) h3 h10 (HP.out.kept M.kept) (HC.out.kept M.kept) (by omega) (by omega)).mono ?_
      rintro e w11 ⟨u, rfl, xHU, K⟩
      have HU := hid xHU
      replace HR2 := hid (HR2.out.kept K)
      replace M := M.call K
      clear K xHU
      have HU1 := hid HU.out.one
      go_wp2_with (first
        | ((with_reducible apply W_buildIt (u := u) (vs := #[u]) (s := 1) M); rfl; exact one_cells HU1.out; exact Salg.underlying140; exact size89; exact zsome89; rfl; decide; decide; clear M; intro bn w12 hbn hbn2 KB M; have hsz12 := KB.size; replace HR2 := hid (HR2.out.kept KB); replace HU := hid (HU.out.kept KB); clear KB; simp only [Act.put, List.setIfInBounds_toArray, List.set_cons_zero, List.set_cons_succ])
        | ((with_reducible apply W_appendK (bn := bn) (u := u) (xs := xs.take (n - 0)) M); exact info89; exact Salg.underlying140; rfl; decide; rfl; rfl; exact HT.out.kept M.kept; (simp; omega); exact M.r0; exact HU1.out; (have HSZ := M.kept.size); clear M; intro VV w13 M xO KA; have HOWN := hid xO; clear xO; have HVV := hid (own_push HOWN.out HN.out); replace HR2 := hid (HR2.out.kept KA); replace HU := hid (HU.out.kept KA); clear KA; simp only [Act.put, List.setIfInBounds_toArray, List.set_cons_zero, List.set_cons_succ])
        | ((with_reducible apply W_stV (b := fb) (o := 8) (v := VV)); rfl; rfl; exact HVV.out.one; exact M.kept.row hr (by simp); exact size140; exact hsz8; intro w11 K1 hr11)
        | ((with_reducible apply W_stV (b := fb) (o := 3) (v := r2)); rfl; rfl; exact HR2.out.one; exact hr11; exact size89; (simp; omega); intro w12 K2 hr12))
      go_end0
      have hrow := M.kept.row hr (by simp)
      have KK := K1.trans K2
      exact ⟨_, VV, r2, u, rfl, (M.kept.mono (by simp)).trans KK, hr12, (by first | exact HVV.out.keptC KK hrow (by decide) | (rw [← HN.out]; exact HVV.out.keptC KK hrow (by decide))), HR2.out.keptC KK hrow HNB.out, HU.out.keptC KK hrow HNB.out⟩
end Go.Proofs.YgcsalGreat

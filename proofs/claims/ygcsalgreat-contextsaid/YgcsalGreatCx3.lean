/-
  (*yp.State).plain at the instructions of Context, its value or effect given.
-/
import Derived.Test.YgcsalGreatCp4
set_option linter.unusedSimpArgs false
set_option linter.unusedVariables false
namespace Go.Proofs.YgcsalGreat
open Go.RowKit Go.Own

set_option maxHeartbeats 4000000 in
set_option maxRecDepth 100000 in
theorem plainM_address (S : List Nat) (rr r2 : Nat) (st : Value) (fb q m G A B C D V : Nat) (fs0 : Array Value) (mv : Value) (ns : List Nat) (w : World) (hS : ∀ b ∈ S, b < w.heap.size) (hF : FrameM S rr w fb q fs0 m G ns mv) (hl : ns.length ≤ 30) (hm : m ≤ 1000) (hr2 : r2 ≤ rr) (hr3 : r2 ≤ ns.length)
    (hV : ∀ w' ab (args : Array Value), Kept [] w w' → w'.heap[ab]? = some (.cells args 89 (0, 0)) → Calls Salg.prog 196 #[st, .pointer (some ⟨fb, q, none⟩), .int .u8 48, .slice (some ⟨ab, 0, none⟩) 0 0] w' fun e w'' => ∃ u, e = .returned u ∧ NumV w'' u V ∧ Kept [] w' w'') :
    Calls Salg.prog 120 #[st, .pointer (some ⟨fb, q, none⟩), .int .u8 48] w fun e w' => ∃ r, e = .returned r ∧ Kept [fb] w w' ∧ FrameM S r2 w' fb q fs0 (m + 1) G (ns ++ [V]) mv := by
  have M := Mem.start w []
  obtain ⟨fs, pv, gv, sv, xs, hr, hsz, hfs, h3, hp, h4, hgv, h8, hs, hxs, hmv, hbo⟩ := hF
  have hxl : xs.length = ns.length + 0 := by have := hxs.1; simpa using this
  have hl4 : xs.length ≤ 40 := by omega
  have hlt : 0 ≤ xs.length := by omega
  have HP := hid hp
  have HGV := hid hgv
  have HS := hid hs
  have HXN := hid hxs
  have HFS := hid hfs
  have HSZ0 := hid hsz
  have H1 := hid hxs.one
  have HBO := hid hbo
  have HSS := hid hS
  have HE := hid hV
  obtain ⟨p, cap, rfl⟩ : ∃ p cap, sv = .slice p xs.length cap := by
    rcases hs with ⟨rfl, rfl⟩ | ⟨g, cap, cur, rfl, _⟩
    · exact ⟨none, 0, rfl⟩
    · exact ⟨_, _, rfl⟩
  have HNB := hid (not_bytes_at (tc := 142) h8)
  have HCT := hid (HS.out.cut (xs.length - 0) (by omega))
  have hcap := HCT.out.1
  have HT : Hid (TightV w 89 (.slice p (xs.length - 0) (xs.length - 0)) (xs.take (xs.length - 0))) := HCT.out.2
  have HA := hid (fun w' (K : Kept [] w w') i (hi : i < xs.length) u hu => arg_q fb q fs _ u xs i w' (K.row hr (by simp)) h8 (HS.out.kept K) hi hu (by omega))
  have HAS := hid (fun i u (hi : i < 0) (hx : i < xs.length) hu => argsL_set (t := 0) (u := u) hi hx hu)
  have HAL := hid (fun i (h : i ≤ xs.length) (hi : i ≤ 0) => argsL_length (t := 0) h hi)
  have HAZ := hid (argsL_zero xs (0))
  have HAA := hid (argsL_all xs (0))
  have hsz8 : q + 8 < fs.size := (Array.getElem?_eq_some_iff.1 h8).1
  have hsz3 : q + 3 < fs.size := (Array.getElem?_eq_some_iff.1 h3).1
  clear hp hs HCT hgv hxs hfs hsz hbo hS hV
  have HXS : Hid (∀ i, i < xs.length → ∃ u, xs[xs.length - 1 - i]? = some u) := fun i hi => ⟨xs[xs.length - 1 - i], List.getElem?_eq_getElem (by omega)⟩
  have HNV : Hid (∀ i u w', i < xs.length → xs[xs.length - 1 - i]? = some u → Kept [] w w' → ∀ N, ns[ns.length + 0 - 1 - i]? = some N → NumV w' u N) := fun i u w' hi hu K N hN => (HXN.out.2 _ _ _ hu (by rw [hxl]; exact hN)).kept K
  obtain ⟨n, hn⟩ : ∃ n, n = xs.length := ⟨_, rfl⟩
  rw [← hn] at HT HA HAS HAL HXS hcap hl4 hlt h8 HNV hxl
  have HN := hid hn
  have HXL := hid hxl
  clear hn hxl
  go_enter Salg.func120, Salg.ntmps120
  go_wp2_with fail
  refine (arity_address _).mono ?_
  rintro e w1 ⟨rfl, hw⟩
  replace hw := hw.symm
  subst hw
  go_wp2_with ((with_reducible apply W_makeV (n := 0) (s := 1) (cs := #[]) M); rfl; rfl; (first | rfl | omega); (first | rfl | omega); (first | decide | omega); exact Salg.underlying140; exact info89; rfl; decide; decide; decide; exact range1 _ _ rfl; clear M; intro ab w2 hab hab2 K M; clear K; simp only [Act.put, List.setIfInBounds_toArray, List.set_cons_zero, List.set_cons_succ])
  rw [show (#[] : Array Value) = (argsL xs 0 0).toArray from by rw [HAZ.out]; rfl] at M
  go_loopw [10, 24] (fun _ iv wr => ∃ i : Nat, i ≤ 0 ∧ iv = .int .i64 i ∧ Mem w [] [(ab, .cells (argsL xs i (0)).toArray 89 (0, 0))] wr) (fun _ iv _ => (((0 : Nat) : Int) - intOf iv).toNat)
  case atStart => exact ⟨0, by omega, rfl, M⟩
  case round =>
    clear M
    obtain ⟨i, hi, rfl, M⟩ := hrel
    rcases Nat.lt_or_ge i (0) with hlt2 | hge
    · exact absurd hlt2 (Nat.not_lt_zero _)
    · have hit : 0 = i := by omega
      subst hit
      clear hge HA HAS HAL
      rw [HAA.out] at M
      have HG := hid (fun i (hi : i < 0) => args_get (t := 0) (i := i) hi (by rw [← HN.out]; exact hlt))
      rw [← HN.out] at HG
      go_wp2_with fail
      refine S_region (by kernel_rfl) ?_
      refine E_stage 0 11 [0, 1, 2, 3, 4, 5, 6, 7, 8, 9, 10] (by kernel_rfl) M.drew ?_
      clear M
      simp only [List.filterMap_cons, List.filterMap_nil, List.getElem?_cons_zero, List.getElem?_cons_succ]
      ((with_reducible apply E_run); rfl; rfl; (intro w M; go_simp; (try go_ints); (try simp only [↓IntWalk.iteOmega]); (try with_reducible rfl)); simp only [Act.put, List.setIfInBounds_toArray, List.set_cons_zero, List.set_cons_succ])
      ((with_reducible apply E_run); rfl; rfl; (intro w M; go_simp; (try go_ints); (try simp only [↓IntWalk.iteOmega]); (try with_reducible rfl)); simp only [Act.put, List.setIfInBounds_toArray, List.set_cons_zero, List.set_cons_succ])
      ((with_reducible apply E_run); rfl; rfl; (intro w M; go_simp; (try go_ints); (try simp only [↓IntWalk.iteOmega]); (try with_reducible rfl)); simp only [Act.put, List.setIfInBounds_toArray, List.set_cons_zero, List.set_cons_succ])
      ((with_reducible apply E_run); rfl; rfl; (intro w M; exact run_loadCell (M.kept.row hr (by simp)) rfl h3 Salg.underlying89 rfl); simp only [Act.put, List.setIfInBounds_toArray, List.set_cons_zero, List.set_cons_succ])
      ((with_reducible apply E_run); rfl; rfl; (intro w M; go_simp; (try go_ints); (try simp only [↓IntWalk.iteOmega]); (try with_reducible rfl)); simp only [Act.put, List.setIfInBounds_toArray, List.set_cons_zero, List.set_cons_succ])
      refine E_call rfl Salg.func195 (by kernel_rfl) (by kernel_rfl) (args := [.int .u8 (48 : Int)]) rfl ?_
      intro w1 K M
      clear K
      refine (imm_other 48 _ (by decide)).mono ?_
      rintro e w4 ⟨rfl, hw⟩
      replace hw := hw.symm
      subst hw
      refine ⟨_, rfl, trivial, M, ?_⟩
      simp only [Act.put, List.setIfInBounds_toArray, List.set_cons_zero, List.set_cons_succ]
      ((with_reducible apply E_run); rfl; rfl; (intro w M; go_simp; (try go_ints); (try simp only [↓IntWalk.iteOmega]); (try with_reducible rfl)); simp only [Act.put, List.setIfInBounds_toArray, List.set_cons_zero, List.set_cons_succ])
      ((with_reducible apply E_run); rfl; rfl; (intro w M; go_simp; (try go_ints); (try simp only [↓IntWalk.iteOmega]); (try with_reducible rfl)); simp only [Act.put, List.setIfInBounds_toArray, List.set_cons_zero, List.set_cons_succ])
      refine E_call rfl Salg.func87 (by kernel_rfl) (by kernel_rfl) (args := [.int .u64 (((1 + 0 : Nat)) : Int)]) rfl ?_
      intro w1 K M
      clear K
      refine (num_int _ (1 + 0) (by rfl) (by omega) _).mono ?_
      rintro e w5 ⟨r1, rfl, xHR1, K⟩
      have HR1 := hid xHR1
      clear xHR1
      replace M := M.call K
      refine ⟨_, rfl, trivial, M, ?_⟩
      clear K
      simp only [Act.put, List.setIfInBounds_toArray, List.set_cons_zero, List.set_cons_succ]
      refine E_call rfl Salg.func68 (by kernel_rfl) (by kernel_rfl) (args := [pv, r1]) rfl ?_
      intro w1 K M
      replace HR1 := hid (HR1.out.kept K)
      clear K
      have hs6 := M.kept.size
      refine (add_fresh _ _ _ _ _ (HP.out.num.kept M.kept) HR1.out (by omega) (by omega)).mono ?_
      rintro e w6 ⟨rp, rfl, xHR2, K⟩
      have HR2 := hid (xHR2.older hs6)
      clear xHR2
      replace HR1 := hid (HR1.out.kept K)
      replace M := M.call K
      refine ⟨_, rfl, trivial, M, ?_⟩
      clear K
      simp only [Act.put, List.setIfInBounds_toArray, List.set_cons_zero, List.set_cons_succ]
      ((with_reducible apply E_run); rfl; rfl; (intro w M; go_simp; (try go_ints); (try simp only [↓IntWalk.iteOmega]); (try with_reducible rfl)); simp only [Act.put, List.setIfInBounds_toArray, List.set_cons_zero, List.set_cons_succ])
      refine E_nil ?_
      intro w9 K M
      replace HR2 := hid (HR2.out.kept K)
      clear K
      refine S_done ?_
      go_wp2_with fail
      refine S_region (by kernel_rfl) ?_
      replace HR2 := hid (HR2.out.kept (Kept.refl [] _).drew)
      refine E_stage 0 20 [0, 1, 2, 3, 4, 5, 6, 7, 8, 9, 10, 11, 12, 13, 14, 15, 16, 17, 18, 19] (by kernel_rfl) M.drew ?_
      clear M
      simp only [List.filterMap_cons, List.filterMap_nil, List.getElem?_cons_zero, List.getElem?_cons_succ]
      ((with_reducible apply E_run); rfl; rfl; (intro w M; go_simp; (try go_ints); (try simp only [↓IntWalk.iteOmega]); (try with_reducible rfl)); simp only [Act.put, List.setIfInBounds_toArray, List.set_cons_zero, List.set_cons_succ])
      ((with_reducible apply E_run); rfl; rfl; (intro w M; go_simp; (try go_ints); (try simp only [↓IntWalk.iteOmega]); (try with_reducible rfl)); simp only [Act.put, List.setIfInBounds_toArray, List.set_cons_zero, List.set_cons_succ])
      ((with_reducible apply E_run); rfl; rfl; (intro w M; go_simp; (try go_ints); (try simp only [↓IntWalk.iteOmega]); (try with_reducible rfl)); simp only [Act.put, List.setIfInBounds_toArray, List.set_cons_zero, List.set_cons_succ])
      ((with_reducible apply E_run); rfl; rfl; (intro w M; exact run_loadCell (M.kept.row hr (by simp)) rfl h8 Salg.underlying140 rfl); simp only [Act.put, List.setIfInBounds_toArray, List.set_cons_zero, List.set_cons_succ])
      ((with_reducible apply E_run); rfl; rfl; (intro w M; go_simp; (try go_ints); (try simp only [↓IntWalk.iteOmega]); (try with_reducible rfl)); simp only [Act.put, List.setIfInBounds_toArray, List.set_cons_zero, List.set_cons_succ])
      ((with_reducible apply E_run); rfl; rfl; (intro w M; go_simp; (try go_ints); (try simp only [↓IntWalk.iteOmega]); (try with_reducible rfl)); simp only [Act.put, List.setIfInBounds_toArray, List.set_cons_zero, List.set_cons_succ])
      ((with_reducible apply E_run); rfl; rfl; (intro w M; go_simp; (try go_ints); (try simp only [↓IntWalk.iteOmega]); (try with_reducible rfl)); simp only [Act.put, List.setIfInBounds_toArray, List.set_cons_zero, List.set_cons_succ])
      ((with_reducible apply E_run); rfl; rfl; (intro w M; exact run_loadCell (M.kept.row hr (by simp)) rfl h8 Salg.underlying140 rfl); simp only [Act.put, List.setIfInBounds_toArray, List.set_cons_zero, List.set_cons_succ])
      ((with_reducible apply E_run); rfl; rfl; (intro w M; go_simp; (try go_ints); (try simp only [↓IntWalk.iteOmega]); (try with_reducible rfl)); simp only [Act.put, List.setIfInBounds_toArray, List.set_cons_zero, List.set_cons_succ])
      ((with_reducible apply E_run); rfl; rfl; (intro w M; go_simp; (try go_ints); (try simp only [↓IntWalk.iteOmega]); (try with_reducible rfl)); simp only [Act.put, List.setIfInBounds_toArray, List.set_cons_zero, List.set_cons_succ])
      ((with_reducible apply E_run); rfl; rfl; (intro w M; go_simp; (try go_ints); (try simp only [↓IntWalk.iteOmega]); (try with_reducible rfl)); simp only [Act.put, List.setIfInBounds_toArray, List.set_cons_zero, List.set_cons_succ])
      ((with_reducible apply E_run); rfl; rfl; (intro w M; go_simp; (try go_ints); (try simp only [↓IntWalk.iteOmega]); (try with_reducible rfl)); simp only [Act.put, List.setIfInBounds_toArray, List.set_cons_zero, List.set_cons_succ])
      ((with_reducible apply E_run); rfl; rfl; (intro w M; go_simp; (try go_ints); (try simp only [↓IntWalk.iteOmega]); (try with_reducible rfl)); simp only [Act.put, List.setIfInBounds_toArray, List.set_cons_zero, List.set_cons_succ])
      ((with_reducible apply E_run); rfl; rfl; (intro w M; go_simp; (try go_ints); (try simp only [↓IntWalk.iteOmega]); (try with_reducible rfl)); simp only [Act.put, List.setIfInBounds_toArray, List.set_cons_zero, List.set_cons_succ])
      ((with_reducible apply E_run); rfl; rfl; (intro w M; exact run_loadCell (M.kept.row hr (by simp)) rfl h8 Salg.underlying140 rfl); simp only [Act.put, List.setIfInBounds_toArray, List.set_cons_zero, List.set_cons_succ])
      ((with_reducible apply E_run); rfl; rfl; (intro w M; go_simp; (try go_ints); (try simp only [↓IntWalk.iteOmega]); (try with_reducible rfl)); simp only [Act.put, List.setIfInBounds_toArray, List.set_cons_zero, List.set_cons_succ])
      ((with_reducible apply E_run); rfl; rfl; (intro w M; go_simp; (try go_ints); (try simp only [↓IntWalk.iteOmega]); (try with_reducible rfl)); simp only [Act.put, List.setIfInBounds_toArray, List.set_cons_zero, List.set_cons_succ])
      ((with_reducible apply E_run); rfl; rfl; (intro w M; go_simp; (try go_ints); (try simp only [↓IntWalk.iteOmega]); (try with_reducible rfl)); simp only [Act.put, List.setIfInBounds_toArray, List.set_cons_zero, List.set_cons_succ])
      ((with_reducible apply E_run); rfl; rfl; (intro w M; exact run_slice3 (n := n - 0) rfl rfl rfl (by omega) (by omega) Salg.underlying140 ⟨1, size89⟩ hcap); simp only [Act.put, List.setIfInBounds_toArray, List.set_cons_zero, List.set_cons_succ])
      ((with_reducible apply E_run); rfl; rfl; (intro w M; go_simp; (try go_ints); (try simp only [↓IntWalk.iteOmega]); (try with_reducible rfl)); simp only [Act.put, List.setIfInBounds_toArray, List.set_cons_zero, List.set_cons_succ])
      refine E_nil ?_
      intro w10 K M
      replace HR2 := hid (HR2.out.kept K)
      clear K
      refine S_done ?_
      go_wp2_with fail
      refine (HE.out _ ab _ M.kept M.r0  ).mono ?_
      rintro e w11 ⟨u, rfl, xP, K⟩
      have HU := hid xP
      have HU1 := hid HU.out.one
      replace HR2 := hid (HR2.out.kept K)
      replace M := M.call K
      clear K xP
      go_wp2_with (first
        | ((with_reducible apply W_buildIt (u := u) (vs := #[u]) (s := 1) M); rfl; exact one_cells HU1.out; exact Salg.underlying140; exact size89; exact zsome89; rfl; decide; decide; clear M; intro bn w12 hbn hbn2 KB M; have hsz12 := KB.size; replace HR2 := hid (HR2.out.kept KB); replace HU := hid (HU.out.kept KB); clear KB; simp only [Act.put, List.setIfInBounds_toArray, List.set_cons_zero, List.set_cons_succ])
        | ((with_reducible apply W_appendK (bn := bn) (u := u) (xs := xs.take (n - 0)) M); exact info89; exact Salg.underlying140; rfl; decide; rfl; rfl; exact HT.out.kept M.kept; (simp; omega); exact M.r0; exact HU1.out; (have HSZ := M.kept.size); clear M; intro VV w13 M xO KA; have HOWN := hid xO; clear xO; have HVV := hid (RowV.own HOWN.out); replace HR2 := hid (HR2.out.kept KA); replace HU := hid (HU.out.kept KA); clear KA; simp only [Act.put, List.setIfInBounds_toArray, List.set_cons_zero, List.set_cons_succ])
        | ((with_reducible apply W_stV (b := fb) (o := q + 8) (v := VV)); rfl; rfl; exact HVV.out.one; exact M.kept.row hr (by simp); exact size140; exact hsz8; intro w21 K1 hr11)
        | ((with_reducible apply W_stV (b := fb) (o := q + 3) (v := rp)); rfl; rfl; exact HR2.out.one; exact hr11; exact size89; (simp; omega); intro w22 K2 hr12))
      go_end0
      have hrow := M.kept.row hr (by simp)
      have KK := K1.trans K2
      have HAP : Hid (xs.take (n - 0) = xs.take ns.length) := by
        show _ = _
        have := HXL.out
        rw [show n - 0 = ns.length by omega]
      have HNS : Hid (NumsV w22 (xs.take (n - 0) ++ [u]) (ns ++ [V])) := by
        have e1 := (((HXN.out.kept M.kept).keptC KK hrow HNB.out).take ns.length)
        rw [List.take_length] at e1
        rw [HAP.out]
        exact e1.push (HU.out.keptC KK hrow HNB.out)
      have hxl := HXL.out
      have hnl := HN.out
      refine ⟨_, rfl, (M.kept.mono (by simp)).trans KK, ⟨_, rp, gv, VV, xs.take (n - 0) ++ [u], hr12, by simp only [Array.size_setIfInBounds]; exact HSZ0.out, fun k k3 k4 k8 k9 => by rw [Array.getElem?_setIfInBounds_ne (by omega), Array.getElem?_setIfInBounds_ne (by omega)]; exact HFS.out k k3 k4 k8 k9, Array.getElem?_setIfInBounds_self_of_lt (by simp; omega), (HR2.out.off HSS.out).keptC KK hrow HNB.out, by rw [Array.getElem?_setIfInBounds_ne (by omega), Array.getElem?_setIfInBounds_ne (by omega)]; exact h4, (HGV.out.kept M.kept).keptC KK hrow HNB.out, by rw [Array.getElem?_setIfInBounds_ne (by omega), Array.getElem?_setIfInBounds_self_of_lt hsz8], (by first | exact HVV.out.keptC KK hrow (by decide) | (rw [← HN.out]; exact HVV.out.keptC KK hrow (by decide))), HNS.out, by rw [Array.getElem?_setIfInBounds_ne (by omega), Array.getElem?_setIfInBounds_ne (by omega)]; exact hmv, fun j v N e1 e2 e3 => ?_⟩⟩
      rw [List.getElem?_append_left (by simp; omega), List.getElem?_take_of_lt (by omega)] at e2
      rw [List.getElem?_append_left (by omega)] at e3
      exact ((HBO.out j v N (by omega) e2 (e3)).kept M.kept).keptC KK hrow HNB.out

set_option maxHeartbeats 4000000 in
set_option maxRecDepth 100000 in
theorem plainM_origin (S : List Nat) (rr r2 : Nat) (st : Value) (fb q m G A B C D V : Nat) (fs0 : Array Value) (mv : Value) (ns : List Nat) (w : World) (hS : ∀ b ∈ S, b < w.heap.size) (hF : FrameM S rr w fb q fs0 m G ns mv) (hl : ns.length ≤ 30) (hm : m ≤ 1000) (hr2 : r2 ≤ rr) (hr3 : r2 ≤ ns.length)
    (hV : ∀ w' ab (args : Array Value), Kept [] w w' → w'.heap[ab]? = some (.cells args 89 (0, 0)) → Calls Salg.prog 196 #[st, .pointer (some ⟨fb, q, none⟩), .int .u8 50, .slice (some ⟨ab, 0, none⟩) 0 0] w' fun e w'' => ∃ u, e = .returned u ∧ NumV w'' u V ∧ Kept [] w' w'') :
    Calls Salg.prog 120 #[st, .pointer (some ⟨fb, q, none⟩), .int .u8 50] w fun e w' => ∃ r, e = .returned r ∧ Kept [fb] w w' ∧ FrameM S r2 w' fb q fs0 (m + 1) G (ns ++ [V]) mv := by
  have M := Mem.start w []
  obtain ⟨fs, pv, gv, sv, xs, hr, hsz, hfs, h3, hp, h4, hgv, h8, hs, hxs, hmv, hbo⟩ := hF
  have hxl : xs.length = ns.length + 0 := by have := hxs.1; simpa using this
  have hl4 : xs.length ≤ 40 := by omega
  have hlt : 0 ≤ xs.length := by omega
  have HP := hid hp
  have HGV := hid hgv
  have HS := hid hs
  have HXN := hid hxs
  have HFS := hid hfs
  have HSZ0 := hid hsz
  have H1 := hid hxs.one
  have HBO := hid hbo
  have HSS := hid hS
  have HE := hid hV
  obtain ⟨p, cap, rfl⟩ : ∃ p cap, sv = .slice p xs.length cap := by
    rcases hs with ⟨rfl, rfl⟩ | ⟨g, cap, cur, rfl, _⟩
    · exact ⟨none, 0, rfl⟩
    · exact ⟨_, _, rfl⟩
  have HNB := hid (not_bytes_at (tc := 142) h8)
  have HCT := hid (HS.out.cut (xs.length - 0) (by omega))
  have hcap := HCT.out.1
  have HT : Hid (TightV w 89 (.slice p (xs.length - 0) (xs.length - 0)) (xs.take (xs.length - 0))) := HCT.out.2
  have HA := hid (fun w' (K : Kept [] w w') i (hi : i < xs.length) u hu => arg_q fb q fs _ u xs i w' (K.row hr (by simp)) h8 (HS.out.kept K) hi hu (by omega))
  have HAS := hid (fun i u (hi : i < 0) (hx : i < xs.length) hu => argsL_set (t := 0) (u := u) hi hx hu)
  have HAL := hid (fun i (h : i ≤ xs.length) (hi : i ≤ 0) => argsL_length (t := 0) h hi)
  have HAZ := hid (argsL_zero xs (0))
  have HAA := hid (argsL_all xs (0))
  have hsz8 : q + 8 < fs.size := (Array.getElem?_eq_some_iff.1 h8).1
  have hsz3 : q + 3 < fs.size := (Array.getElem?_eq_some_iff.1 h3).1
  clear hp hs HCT hgv hxs hfs hsz hbo hS hV
  have HXS : Hid (∀ i, i < xs.length → ∃ u, xs[xs.length - 1 - i]? = some u) := fun i hi => ⟨xs[xs.length - 1 - i], List.getElem?_eq_getElem (by omega)⟩
  have HNV : Hid (∀ i u w', i < xs.length → xs[xs.length - 1 - i]? = some u → Kept [] w w' → ∀ N, ns[ns.length + 0 - 1 - i]? = some N → NumV w' u N) := fun i u w' hi hu K N hN => (HXN.out.2 _ _ _ hu (by rw [hxl]; exact hN)).kept K
  obtain ⟨n, hn⟩ : ∃ n, n = xs.length := ⟨_, rfl⟩
  rw [← hn] at HT HA HAS HAL HXS hcap hl4 hlt h8 HNV hxl
  have HN := hid hn
  have HXL := hid hxl
  clear hn hxl
  go_enter Salg.func120, Salg.ntmps120
  go_wp2_with fail
  refine (arity_origin _).mono ?_
  rintro e w1 ⟨rfl, hw⟩
  replace hw := hw.symm
  subst hw
  go_wp2_with ((with_reducible apply W_makeV (n := 0) (s := 1) (cs := #[]) M); rfl; rfl; (first | rfl | omega); (first | rfl | omega); (first | decide | omega); exact Salg.underlying140; exact info89; rfl; decide; decide; decide; exact range1 _ _ rfl; clear M; intro ab w2 hab hab2 K M; clear K; simp only [Act.put, List.setIfInBounds_toArray, List.set_cons_zero, List.set_cons_succ])
  rw [show (#[] : Array Value) = (argsL xs 0 0).toArray from by rw [HAZ.out]; rfl] at M
  go_loopw [10, 24] (fun _ iv wr => ∃ i : Nat, i ≤ 0 ∧ iv = .int .i64 i ∧ Mem w [] [(ab, .cells (argsL xs i (0)).toArray 89 (0, 0))] wr) (fun _ iv _ => (((0 : Nat) : Int) - intOf iv).toNat)
  case atStart => exact ⟨0, by omega, rfl, M⟩
  case round =>
    clear M
    obtain ⟨i, hi, rfl, M⟩ := hrel
    rcases Nat.lt_or_ge i (0) with hlt2 | hge
    · exact absurd hlt2 (Nat.not_lt_zero _)
    · have hit : 0 = i := by omega
      subst hit
      clear hge HA HAS HAL
      rw [HAA.out] at M
      have HG := hid (fun i (hi : i < 0) => args_get (t := 0) (i := i) hi (by rw [← HN.out]; exact hlt))
      rw [← HN.out] at HG
      go_wp2_with fail
      refine S_region (by kernel_rfl) ?_
      refine E_stage 0 11 [0, 1, 2, 3, 4, 5, 6, 7, 8, 9, 10] (by kernel_rfl) M.drew ?_
      clear M
      simp only [List.filterMap_cons, List.filterMap_nil, List.getElem?_cons_zero, List.getElem?_cons_succ]
      ((with_reducible apply E_run); rfl; rfl; (intro w M; go_simp; (try go_ints); (try simp only [↓IntWalk.iteOmega]); (try with_reducible rfl)); simp only [Act.put, List.setIfInBounds_toArray, List.set_cons_zero, List.set_cons_succ])
      ((with_reducible apply E_run); rfl; rfl; (intro w M; go_simp; (try go_ints); (try simp only [↓IntWalk.iteOmega]); (try with_reducible rfl)); simp only [Act.put, List.setIfInBounds_toArray, List.set_cons_zero, List.set_cons_succ])
      ((with_reducible apply E_run); rfl; rfl; (intro w M; go_simp; (try go_ints); (try simp only [↓IntWalk.iteOmega]); (try with_reducible rfl)); simp only [Act.put, List.setIfInBounds_toArray, List.set_cons_zero, List.set_cons_succ])
      ((with_reducible apply E_run); rfl; rfl; (intro w M; exact run_loadCell (M.kept.row hr (by simp)) rfl h3 Salg.underlying89 rfl); simp only [Act.put, List.setIfInBounds_toArray, List.set_cons_zero, List.set_cons_succ])
      ((with_reducible apply E_run); rfl; rfl; (intro w M; go_simp; (try go_ints); (try simp only [↓IntWalk.iteOmega]); (try with_reducible rfl)); simp only [Act.put, List.setIfInBounds_toArray, List.set_cons_zero, List.set_cons_succ])
      refine E_call rfl Salg.func195 (by kernel_rfl) (by kernel_rfl) (args := [.int .u8 (50 : Int)]) rfl ?_
      intro w1 K M
      clear K
      refine (imm_other 50 _ (by decide)).mono ?_
      rintro e w4 ⟨rfl, hw⟩
      replace hw := hw.symm
      subst hw
      refine ⟨_, rfl, trivial, M, ?_⟩
      simp only [Act.put, List.setIfInBounds_toArray, List.set_cons_zero, List.set_cons_succ]
      ((with_reducible apply E_run); rfl; rfl; (intro w M; go_simp; (try go_ints); (try simp only [↓IntWalk.iteOmega]); (try with_reducible rfl)); simp only [Act.put, List.setIfInBounds_toArray, List.set_cons_zero, List.set_cons_succ])
      ((with_reducible apply E_run); rfl; rfl; (intro w M; go_simp; (try go_ints); (try simp only [↓IntWalk.iteOmega]); (try with_reducible rfl)); simp only [Act.put, List.setIfInBounds_toArray, List.set_cons_zero, List.set_cons_succ])
      refine E_call rfl Salg.func87 (by kernel_rfl) (by kernel_rfl) (args := [.int .u64 (((1 + 0 : Nat)) : Int)]) rfl ?_
      intro w1 K M
      clear K
      refine (num_int _ (1 + 0) (by rfl) (by omega) _).mono ?_
      rintro e w5 ⟨r1, rfl, xHR1, K⟩
      have HR1 := hid xHR1
      clear xHR1
      replace M := M.call K
      refine ⟨_, rfl, trivial, M, ?_⟩
      clear K
      simp only [Act.put, List.setIfInBounds_toArray, List.set_cons_zero, List.set_cons_succ]
      refine E_call rfl Salg.func68 (by kernel_rfl) (by kernel_rfl) (args := [pv, r1]) rfl ?_
      intro w1 K M
      replace HR1 := hid (HR1.out.kept K)
      clear K
      have hs6 := M.kept.size
      refine (add_fresh _ _ _ _ _ (HP.out.num.kept M.kept) HR1.out (by omega) (by omega)).mono ?_
      rintro e w6 ⟨rp, rfl, xHR2, K⟩
      have HR2 := hid (xHR2.older hs6)
      clear xHR2
      replace HR1 := hid (HR1.out.kept K)
      replace M := M.call K
      refine ⟨_, rfl, trivial, M, ?_⟩
      clear K
      simp only [Act.put, List.setIfInBounds_toArray, List.set_cons_zero, List.set_cons_succ]
      ((with_reducible apply E_run); rfl; rfl; (intro w M; go_simp; (try go_ints); (try simp only [↓IntWalk.iteOmega]); (try with_reducible rfl)); simp only [Act.put, List.setIfInBounds_toArray, List.set_cons_zero, List.set_cons_succ])
      refine E_nil ?_
      intro w9 K M
      replace HR2 := hid (HR2.out.kept K)
      clear K
      refine S_done ?_
      go_wp2_with fail
      refine S_region (by kernel_rfl) ?_
      replace HR2 := hid (HR2.out.kept (Kept.refl [] _).drew)
      refine E_stage 0 20 [0, 1, 2, 3, 4, 5, 6, 7, 8, 9, 10, 11, 12, 13, 14, 15, 16, 17, 18, 19] (by kernel_rfl) M.drew ?_
      clear M
      simp only [List.filterMap_cons, List.filterMap_nil, List.getElem?_cons_zero, List.getElem?_cons_succ]
      ((with_reducible apply E_run); rfl; rfl; (intro w M; go_simp; (try go_ints); (try simp only [↓IntWalk.iteOmega]); (try with_reducible rfl)); simp only [Act.put, List.setIfInBounds_toArray, List.set_cons_zero, List.set_cons_succ])
      ((with_reducible apply E_run); rfl; rfl; (intro w M; go_simp; (try go_ints); (try simp only [↓IntWalk.iteOmega]); (try with_reducible rfl)); simp only [Act.put, List.setIfInBounds_toArray, List.set_cons_zero, List.set_cons_succ])
      ((with_reducible apply E_run); rfl; rfl; (intro w M; go_simp; (try go_ints); (try simp only [↓IntWalk.iteOmega]); (try with_reducible rfl)); simp only [Act.put, List.setIfInBounds_toArray, List.set_cons_zero, List.set_cons_succ])
      ((with_reducible apply E_run); rfl; rfl; (intro w M; exact run_loadCell (M.kept.row hr (by simp)) rfl h8 Salg.underlying140 rfl); simp only [Act.put, List.setIfInBounds_toArray, List.set_cons_zero, List.set_cons_succ])
      ((with_reducible apply E_run); rfl; rfl; (intro w M; go_simp; (try go_ints); (try simp only [↓IntWalk.iteOmega]); (try with_reducible rfl)); simp only [Act.put, List.setIfInBounds_toArray, List.set_cons_zero, List.set_cons_succ])
      ((with_reducible apply E_run); rfl; rfl; (intro w M; go_simp; (try go_ints); (try simp only [↓IntWalk.iteOmega]); (try with_reducible rfl)); simp only [Act.put, List.setIfInBounds_toArray, List.set_cons_zero, List.set_cons_succ])
      ((with_reducible apply E_run); rfl; rfl; (intro w M; go_simp; (try go_ints); (try simp only [↓IntWalk.iteOmega]); (try with_reducible rfl)); simp only [Act.put, List.setIfInBounds_toArray, List.set_cons_zero, List.set_cons_succ])
      ((with_reducible apply E_run); rfl; rfl; (intro w M; exact run_loadCell (M.kept.row hr (by simp)) rfl h8 Salg.underlying140 rfl); simp only [Act.put, List.setIfInBounds_toArray, List.set_cons_zero, List.set_cons_succ])
      ((with_reducible apply E_run); rfl; rfl; (intro w M; go_simp; (try go_ints); (try simp only [↓IntWalk.iteOmega]); (try with_reducible rfl)); simp only [Act.put, List.setIfInBounds_toArray, List.set_cons_zero, List.set_cons_succ])
      ((with_reducible apply E_run); rfl; rfl; (intro w M; go_simp; (try go_ints); (try simp only [↓IntWalk.iteOmega]); (try with_reducible rfl)); simp only [Act.put, List.setIfInBounds_toArray, List.set_cons_zero, List.set_cons_succ])
      ((with_reducible apply E_run); rfl; rfl; (intro w M; go_simp; (try go_ints); (try simp only [↓IntWalk.iteOmega]); (try with_reducible rfl)); simp only [Act.put, List.setIfInBounds_toArray, List.set_cons_zero, List.set_cons_succ])
      ((with_reducible apply E_run); rfl; rfl; (intro w M; go_simp; (try go_ints); (try simp only [↓IntWalk.iteOmega]); (try with_reducible rfl)); simp only [Act.put, List.setIfInBounds_toArray, List.set_cons_zero, List.set_cons_succ])
      ((with_reducible apply E_run); rfl; rfl; (intro w M; go_simp; (try go_ints); (try simp only [↓IntWalk.iteOmega]); (try with_reducible rfl)); simp only [Act.put, List.setIfInBounds_toArray, List.set_cons_zero, List.set_cons_succ])
      ((with_reducible apply E_run); rfl; rfl; (intro w M; go_simp; (try go_ints); (try simp only [↓IntWalk.iteOmega]); (try with_reducible rfl)); simp only [Act.put, List.setIfInBounds_toArray, List.set_cons_zero, List.set_cons_succ])
      ((with_reducible apply E_run); rfl; rfl; (intro w M; exact run_loadCell (M.kept.row hr (by simp)) rfl h8 Salg.underlying140 rfl); simp only [Act.put, List.setIfInBounds_toArray, List.set_cons_zero, List.set_cons_succ])
      ((with_reducible apply E_run); rfl; rfl; (intro w M; go_simp; (try go_ints); (try simp only [↓IntWalk.iteOmega]); (try with_reducible rfl)); simp only [Act.put, List.setIfInBounds_toArray, List.set_cons_zero, List.set_cons_succ])
      ((with_reducible apply E_run); rfl; rfl; (intro w M; go_simp; (try go_ints); (try simp only [↓IntWalk.iteOmega]); (try with_reducible rfl)); simp only [Act.put, List.setIfInBounds_toArray, List.set_cons_zero, List.set_cons_succ])
      ((with_reducible apply E_run); rfl; rfl; (intro w M; go_simp; (try go_ints); (try simp only [↓IntWalk.iteOmega]); (try with_reducible rfl)); simp only [Act.put, List.setIfInBounds_toArray, List.set_cons_zero, List.set_cons_succ])
      ((with_reducible apply E_run); rfl; rfl; (intro w M; exact run_slice3 (n := n - 0) rfl rfl rfl (by omega) (by omega) Salg.underlying140 ⟨1, size89⟩ hcap); simp only [Act.put, List.setIfInBounds_toArray, List.set_cons_zero, List.set_cons_succ])
      ((with_reducible apply E_run); rfl; rfl; (intro w M; go_simp; (try go_ints); (try simp only [↓IntWalk.iteOmega]); (try with_reducible rfl)); simp only [Act.put, List.setIfInBounds_toArray, List.set_cons_zero, List.set_cons_succ])
      refine E_nil ?_
      intro w10 K M
      replace HR2 := hid (HR2.out.kept K)
      clear K
      refine S_done ?_
      go_wp2_with fail
      refine (HE.out _ ab _ M.kept M.r0  ).mono ?_
      rintro e w11 ⟨u, rfl, xP, K⟩
      have HU := hid xP
      have HU1 := hid HU.out.one
      replace HR2 := hid (HR2.out.kept K)
      replace M := M.call K
      clear K xP
      go_wp2_with (first
        | ((with_reducible apply W_buildIt (u := u) (vs := #[u]) (s := 1) M); rfl; exact one_cells HU1.out; exact Salg.underlying140; exact size89; exact zsome89; rfl; decide; decide; clear M; intro bn w12 hbn hbn2 KB M; have hsz12 := KB.size; replace HR2 := hid (HR2.out.kept KB); replace HU := hid (HU.out.kept KB); clear KB; simp only [Act.put, List.setIfInBounds_toArray, List.set_cons_zero, List.set_cons_succ])
        | ((with_reducible apply W_appendK (bn := bn) (u := u) (xs := xs.take (n - 0)) M); exact info89; exact Salg.underlying140; rfl; decide; rfl; rfl; exact HT.out.kept M.kept; (simp; omega); exact M.r0; exact HU1.out; (have HSZ := M.kept.size); clear M; intro VV w13 M xO KA; have HOWN := hid xO; clear xO; have HVV := hid (RowV.own HOWN.out); replace HR2 := hid (HR2.out.kept KA); replace HU := hid (HU.out.kept KA); clear KA; simp only [Act.put, List.setIfInBounds_toArray, List.set_cons_zero, List.set_cons_succ])
        | ((with_reducible apply W_stV (b := fb) (o := q + 8) (v := VV)); rfl; rfl; exact HVV.out.one; exact M.kept.row hr (by simp); exact size140; exact hsz8; intro w21 K1 hr11)
        | ((with_reducible apply W_stV (b := fb) (o := q + 3) (v := rp)); rfl; rfl; exact HR2.out.one; exact hr11; exact size89; (simp; omega); intro w22 K2 hr12))
      go_end0
      have hrow := M.kept.row hr (by simp)
      have KK := K1.trans K2
      have HAP : Hid (xs.take (n - 0) = xs.take ns.length) := by
        show _ = _
        have := HXL.out
        rw [show n - 0 = ns.length by omega]
      have HNS : Hid (NumsV w22 (xs.take (n - 0) ++ [u]) (ns ++ [V])) := by
        have e1 := (((HXN.out.kept M.kept).keptC KK hrow HNB.out).take ns.length)
        rw [List.take_length] at e1
        rw [HAP.out]
        exact e1.push (HU.out.keptC KK hrow HNB.out)
      have hxl := HXL.out
      have hnl := HN.out
      refine ⟨_, rfl, (M.kept.mono (by simp)).trans KK, ⟨_, rp, gv, VV, xs.take (n - 0) ++ [u], hr12, by simp only [Array.size_setIfInBounds]; exact HSZ0.out, fun k k3 k4 k8 k9 => by rw [Array.getElem?_setIfInBounds_ne (by omega), Array.getElem?_setIfInBounds_ne (by omega)]; exact HFS.out k k3 k4 k8 k9, Array.getElem?_setIfInBounds_self_of_lt (by simp; omega), (HR2.out.off HSS.out).keptC KK hrow HNB.out, by rw [Array.getElem?_setIfInBounds_ne (by omega), Array.getElem?_setIfInBounds_ne (by omega)]; exact h4, (HGV.out.kept M.kept).keptC KK hrow HNB.out, by rw [Array.getElem?_setIfInBounds_ne (by omega), Array.getElem?_setIfInBounds_self_of_lt hsz8], (by first | exact HVV.out.keptC KK hrow (by decide) | (rw [← HN.out]; exact HVV.out.keptC KK hrow (by decide))), HNS.out, by rw [Array.getElem?_setIfInBounds_ne (by omega), Array.getElem?_setIfInBounds_ne (by omega)]; exact hmv, fun j v N e1 e2 e3 => ?_⟩⟩
      rw [List.getElem?_append_left (by simp; omega), List.getElem?_take_of_lt (by omega)] at e2
      rw [List.getElem?_append_left (by omega)] at e3
      exact ((HBO.out j v N (by omega) e2 (e3)).kept M.kept).keptC KK hrow HNB.out

set_option maxHeartbeats 4000000 in
set_option maxRecDepth 100000 in
theorem plainM_caller (S : List Nat) (rr r2 : Nat) (st : Value) (fb q m G A B C D V : Nat) (fs0 : Array Value) (mv : Value) (ns : List Nat) (w : World) (hS : ∀ b ∈ S, b < w.heap.size) (hF : FrameM S rr w fb q fs0 m G ns mv) (hl : ns.length ≤ 30) (hm : m ≤ 1000) (hr2 : r2 ≤ rr) (hr3 : r2 ≤ ns.length)
    (hV : ∀ w' ab (args : Array Value), Kept [] w w' → w'.heap[ab]? = some (.cells args 89 (0, 0)) → Calls Salg.prog 196 #[st, .pointer (some ⟨fb, q, none⟩), .int .u8 51, .slice (some ⟨ab, 0, none⟩) 0 0] w' fun e w'' => ∃ u, e = .returned u ∧ NumV w'' u V ∧ Kept [] w' w'') :
    Calls Salg.prog 120 #[st, .pointer (some ⟨fb, q, none⟩), .int .u8 51] w fun e w' => ∃ r, e = .returned r ∧ Kept [fb] w w' ∧ FrameM S r2 w' fb q fs0 (m + 1) G (ns ++ [V]) mv := by
  have M := Mem.start w []
  obtain ⟨fs, pv, gv, sv, xs, hr, hsz, hfs, h3, hp, h4, hgv, h8, hs, hxs, hmv, hbo⟩ := hF
  have hxl : xs.length = ns.length + 0 := by have := hxs.1; simpa using this
  have hl4 : xs.length ≤ 40 := by omega
  have hlt : 0 ≤ xs.length := by omega
  have HP := hid hp
  have HGV := hid hgv
  have HS := hid hs
  have HXN := hid hxs
  have HFS := hid hfs
  have HSZ0 := hid hsz
  have H1 := hid hxs.one
  have HBO := hid hbo
  have HSS := hid hS
  have HE := hid hV
  obtain ⟨p, cap, rfl⟩ : ∃ p cap, sv = .slice p xs.length cap := by
    rcases hs with ⟨rfl, rfl⟩ | ⟨g, cap, cur, rfl, _⟩
    · exact ⟨none, 0, rfl⟩
    · exact ⟨_, _, rfl⟩
  have HNB := hid (not_bytes_at (tc := 142) h8)
  have HCT := hid (HS.out.cut (xs.length - 0) (by omega))
  have hcap := HCT.out.1
  have HT : Hid (TightV w 89 (.slice p (xs.length - 0) (xs.length - 0)) (xs.take (xs.length - 0))) := HCT.out.2
  have HA := hid (fun w' (K : Kept [] w w') i (hi : i < xs.length) u hu => arg_q fb q fs _ u xs i w' (K.row hr (by simp)) h8 (HS.out.kept K) hi hu (by omega))
  have HAS := hid (fun i u (hi : i < 0) (hx : i < xs.length) hu => argsL_set (t := 0) (u := u) hi hx hu)
  have HAL := hid (fun i (h : i ≤ xs.length) (hi : i ≤ 0) => argsL_length (t := 0) h hi)
  have HAZ := hid (argsL_zero xs (0))
  have HAA := hid (argsL_all xs (0))
  have hsz8 : q + 8 < fs.size := (Array.getElem?_eq_some_iff.1 h8).1
  have hsz3 : q + 3 < fs.size := (Array.getElem?_eq_some_iff.1 h3).1
  clear hp hs HCT hgv hxs hfs hsz hbo hS hV
  have HXS : Hid (∀ i, i < xs.length → ∃ u, xs[xs.length - 1 - i]? = some u) := fun i hi => ⟨xs[xs.length - 1 - i], List.getElem?_eq_getElem (by omega)⟩
  have HNV : Hid (∀ i u w', i < xs.length → xs[xs.length - 1 - i]? = some u → Kept [] w w' → ∀ N, ns[ns.length + 0 - 1 - i]? = some N → NumV w' u N) := fun i u w' hi hu K N hN => (HXN.out.2 _ _ _ hu (by rw [hxl]; exact hN)).kept K
  obtain ⟨n, hn⟩ : ∃ n, n = xs.length := ⟨_, rfl⟩
  rw [← hn] at HT HA HAS HAL HXS hcap hl4 hlt h8 HNV hxl
  have HN := hid hn
  have HXL := hid hxl
  clear hn hxl
  go_enter Salg.func120, Salg.ntmps120
  go_wp2_with fail
  refine (arity_caller _).mono ?_
  rintro e w1 ⟨rfl, hw⟩
  replace hw := hw.symm
  subst hw
  go_wp2_with ((with_reducible apply W_makeV (n := 0) (s := 1) (cs := #[]) M); rfl; rfl; (first | rfl | omega); (first | rfl | omega); (first | decide | omega); exact Salg.underlying140; exact info89; rfl; decide; decide; decide; exact range1 _ _ rfl; clear M; intro ab w2 hab hab2 K M; clear K; simp only [Act.put, List.setIfInBounds_toArray, List.set_cons_zero, List.set_cons_succ])
  rw [show (#[] : Array Value) = (argsL xs 0 0).toArray from by rw [HAZ.out]; rfl] at M
  go_loopw [10, 24] (fun _ iv wr => ∃ i : Nat, i ≤ 0 ∧ iv = .int .i64 i ∧ Mem w [] [(ab, .cells (argsL xs i (0)).toArray 89 (0, 0))] wr) (fun _ iv _ => (((0 : Nat) : Int) - intOf iv).toNat)
  case atStart => exact ⟨0, by omega, rfl, M⟩
  case round =>
    clear M
    obtain ⟨i, hi, rfl, M⟩ := hrel
    rcases Nat.lt_or_ge i (0) with hlt2 | hge
    · exact absurd hlt2 (Nat.not_lt_zero _)
    · have hit : 0 = i := by omega
      subst hit
      clear hge HA HAS HAL
      rw [HAA.out] at M
      have HG := hid (fun i (hi : i < 0) => args_get (t := 0) (i := i) hi (by rw [← HN.out]; exact hlt))
      rw [← HN.out] at HG
      go_wp2_with fail
      refine S_region (by kernel_rfl) ?_
      refine E_stage 0 11 [0, 1, 2, 3, 4, 5, 6, 7, 8, 9, 10] (by kernel_rfl) M.drew ?_
      clear M
      simp only [List.filterMap_cons, List.filterMap_nil, List.getElem?_cons_zero, List.getElem?_cons_succ]
      ((with_reducible apply E_run); rfl; rfl; (intro w M; go_simp; (try go_ints); (try simp only [↓IntWalk.iteOmega]); (try with_reducible rfl)); simp only [Act.put, List.setIfInBounds_toArray, List.set_cons_zero, List.set_cons_succ])
      ((with_reducible apply E_run); rfl; rfl; (intro w M; go_simp; (try go_ints); (try simp only [↓IntWalk.iteOmega]); (try with_reducible rfl)); simp only [Act.put, List.setIfInBounds_toArray, List.set_cons_zero, List.set_cons_succ])
      ((with_reducible apply E_run); rfl; rfl; (intro w M; go_simp; (try go_ints); (try simp only [↓IntWalk.iteOmega]); (try with_reducible rfl)); simp only [Act.put, List.setIfInBounds_toArray, List.set_cons_zero, List.set_cons_succ])
      ((with_reducible apply E_run); rfl; rfl; (intro w M; exact run_loadCell (M.kept.row hr (by simp)) rfl h3 Salg.underlying89 rfl); simp only [Act.put, List.setIfInBounds_toArray, List.set_cons_zero, List.set_cons_succ])
      ((with_reducible apply E_run); rfl; rfl; (intro w M; go_simp; (try go_ints); (try simp only [↓IntWalk.iteOmega]); (try with_reducible rfl)); simp only [Act.put, List.setIfInBounds_toArray, List.set_cons_zero, List.set_cons_succ])
      refine E_call rfl Salg.func195 (by kernel_rfl) (by kernel_rfl) (args := [.int .u8 (51 : Int)]) rfl ?_
      intro w1 K M
      clear K
      refine (imm_other 51 _ (by decide)).mono ?_
      rintro e w4 ⟨rfl, hw⟩
      replace hw := hw.symm
      subst hw
      refine ⟨_, rfl, trivial, M, ?_⟩
      simp only [Act.put, List.setIfInBounds_toArray, List.set_cons_zero, List.set_cons_succ]
      ((with_reducible apply E_run); rfl; rfl; (intro w M; go_simp; (try go_ints); (try simp only [↓IntWalk.iteOmega]); (try with_reducible rfl)); simp only [Act.put, List.setIfInBounds_toArray, List.set_cons_zero, List.set_cons_succ])
      ((with_reducible apply E_run); rfl; rfl; (intro w M; go_simp; (try go_ints); (try simp only [↓IntWalk.iteOmega]); (try with_reducible rfl)); simp only [Act.put, List.setIfInBounds_toArray, List.set_cons_zero, List.set_cons_succ])
      refine E_call rfl Salg.func87 (by kernel_rfl) (by kernel_rfl) (args := [.int .u64 (((1 + 0 : Nat)) : Int)]) rfl ?_
      intro w1 K M
      clear K
      refine (num_int _ (1 + 0) (by rfl) (by omega) _).mono ?_
      rintro e w5 ⟨r1, rfl, xHR1, K⟩
      have HR1 := hid xHR1
      clear xHR1
      replace M := M.call K
      refine ⟨_, rfl, trivial, M, ?_⟩
      clear K
      simp only [Act.put, List.setIfInBounds_toArray, List.set_cons_zero, List.set_cons_succ]
      refine E_call rfl Salg.func68 (by kernel_rfl) (by kernel_rfl) (args := [pv, r1]) rfl ?_
      intro w1 K M
      replace HR1 := hid (HR1.out.kept K)
      clear K
      have hs6 := M.kept.size
      refine (add_fresh _ _ _ _ _ (HP.out.num.kept M.kept) HR1.out (by omega) (by omega)).mono ?_
      rintro e w6 ⟨rp, rfl, xHR2, K⟩
      have HR2 := hid (xHR2.older hs6)
      clear xHR2
      replace HR1 := hid (HR1.out.kept K)
      replace M := M.call K
      refine ⟨_, rfl, trivial, M, ?_⟩
      clear K
      simp only [Act.put, List.setIfInBounds_toArray, List.set_cons_zero, List.set_cons_succ]
      ((with_reducible apply E_run); rfl; rfl; (intro w M; go_simp; (try go_ints); (try simp only [↓IntWalk.iteOmega]); (try with_reducible rfl)); simp only [Act.put, List.setIfInBounds_toArray, List.set_cons_zero, List.set_cons_succ])
      refine E_nil ?_
      intro w9 K M
      replace HR2 := hid (HR2.out.kept K)
      clear K
      refine S_done ?_
      go_wp2_with fail
      refine S_region (by kernel_rfl) ?_
      replace HR2 := hid (HR2.out.kept (Kept.refl [] _).drew)
      refine E_stage 0 20 [0, 1, 2, 3, 4, 5, 6, 7, 8, 9, 10, 11, 12, 13, 14, 15, 16, 17, 18, 19] (by kernel_rfl) M.drew ?_
      clear M
      simp only [List.filterMap_cons, List.filterMap_nil, List.getElem?_cons_zero, List.getElem?_cons_succ]
      ((with_reducible apply E_run); rfl; rfl; (intro w M; go_simp; (try go_ints); (try simp only [↓IntWalk.iteOmega]); (try with_reducible rfl)); simp only [Act.put, List.setIfInBounds_toArray, List.set_cons_zero, List.set_cons_succ])
      ((with_reducible apply E_run); rfl; rfl; (intro w M; go_simp; (try go_ints); (try simp only [↓IntWalk.iteOmega]); (try with_reducible rfl)); simp only [Act.put, List.setIfInBounds_toArray, List.set_cons_zero, List.set_cons_succ])
      ((with_reducible apply E_run); rfl; rfl; (intro w M; go_simp; (try go_ints); (try simp only [↓IntWalk.iteOmega]); (try with_reducible rfl)); simp only [Act.put, List.setIfInBounds_toArray, List.set_cons_zero, List.set_cons_succ])
      ((with_reducible apply E_run); rfl; rfl; (intro w M; exact run_loadCell (M.kept.row hr (by simp)) rfl h8 Salg.underlying140 rfl); simp only [Act.put, List.setIfInBounds_toArray, List.set_cons_zero, List.set_cons_succ])
      ((with_reducible apply E_run); rfl; rfl; (intro w M; go_simp; (try go_ints); (try simp only [↓IntWalk.iteOmega]); (try with_reducible rfl)); simp only [Act.put, List.setIfInBounds_toArray, List.set_cons_zero, List.set_cons_succ])
      ((with_reducible apply E_run); rfl; rfl; (intro w M; go_simp; (try go_ints); (try simp only [↓IntWalk.iteOmega]); (try with_reducible rfl)); simp only [Act.put, List.setIfInBounds_toArray, List.set_cons_zero, List.set_cons_succ])
      ((with_reducible apply E_run); rfl; rfl; (intro w M; go_simp; (try go_ints); (try simp only [↓IntWalk.iteOmega]); (try with_reducible rfl)); simp only [Act.put, List.setIfInBounds_toArray, List.set_cons_zero, List.set_cons_succ])
      ((with_reducible apply E_run); rfl; rfl; (intro w M; exact run_loadCell (M.kept.row hr (by simp)) rfl h8 Salg.underlying140 rfl); simp only [Act.put, List.setIfInBounds_toArray, List.set_cons_zero, List.set_cons_succ])
      ((with_reducible apply E_run); rfl; rfl; (intro w M; go_simp; (try go_ints); (try simp only [↓IntWalk.iteOmega]); (try with_reducible rfl)); simp only [Act.put, List.setIfInBounds_toArray, List.set_cons_zero, List.set_cons_succ])
      ((with_reducible apply E_run); rfl; rfl; (intro w M; go_simp; (try go_ints); (try simp only [↓IntWalk.iteOmega]); (try with_reducible rfl)); simp only [Act.put, List.setIfInBounds_toArray, List.set_cons_zero, List.set_cons_succ])
      ((with_reducible apply E_run); rfl; rfl; (intro w M; go_simp; (try go_ints); (try simp only [↓IntWalk.iteOmega]); (try with_reducible rfl)); simp only [Act.put, List.setIfInBounds_toArray, List.set_cons_zero, List.set_cons_succ])
      ((with_reducible apply E_run); rfl; rfl; (intro w M; go_simp; (try go_ints); (try simp only [↓IntWalk.iteOmega]); (try with_reducible rfl)); simp only [Act.put, List.setIfInBounds_toArray, List.set_cons_zero, List.set_cons_succ])
      ((with_reducible apply E_run); rfl; rfl; (intro w M; go_simp; (try go_ints); (try simp only [↓IntWalk.iteOmega]); (try with_reducible rfl)); simp only [Act.put, List.setIfInBounds_toArray, List.set_cons_zero, List.set_cons_succ])
      ((with_reducible apply E_run); rfl; rfl; (intro w M; go_simp; (try go_ints); (try simp only [↓IntWalk.iteOmega]); (try with_reducible rfl)); simp only [Act.put, List.setIfInBounds_toArray, List.set_cons_zero, List.set_cons_succ])
      ((with_reducible apply E_run); rfl; rfl; (intro w M; exact run_loadCell (M.kept.row hr (by simp)) rfl h8 Salg.underlying140 rfl); simp only [Act.put, List.setIfInBounds_toArray, List.set_cons_zero, List.set_cons_succ])
      ((with_reducible apply E_run); rfl; rfl; (intro w M; go_simp; (try go_ints); (try simp only [↓IntWalk.iteOmega]); (try with_reducible rfl)); simp only [Act.put, List.setIfInBounds_toArray, List.set_cons_zero, List.set_cons_succ])
      ((with_reducible apply E_run); rfl; rfl; (intro w M; go_simp; (try go_ints); (try simp only [↓IntWalk.iteOmega]); (try with_reducible rfl)); simp only [Act.put, List.setIfInBounds_toArray, List.set_cons_zero, List.set_cons_succ])
      ((with_reducible apply E_run); rfl; rfl; (intro w M; go_simp; (try go_ints); (try simp only [↓IntWalk.iteOmega]); (try with_reducible rfl)); simp only [Act.put, List.setIfInBounds_toArray, List.set_cons_zero, List.set_cons_succ])
      ((with_reducible apply E_run); rfl; rfl; (intro w M; exact run_slice3 (n := n - 0) rfl rfl rfl (by omega) (by omega) Salg.underlying140 ⟨1, size89⟩ hcap); simp only [Act.put, List.setIfInBounds_toArray, List.set_cons_zero, List.set_cons_succ])
      ((with_reducible apply E_run); rfl; rfl; (intro w M; go_simp; (try go_ints); (try simp only [↓IntWalk.iteOmega]); (try with_reducible rfl)); simp only [Act.put, List.setIfInBounds_toArray, List.set_cons_zero, List.set_cons_succ])
      refine E_nil ?_
      intro w10 K M
      replace HR2 := hid (HR2.out.kept K)
      clear K
      refine S_done ?_
      go_wp2_with fail
      refine (HE.out _ ab _ M.kept M.r0  ).mono ?_
      rintro e w11 ⟨u, rfl, xP, K⟩
      have HU := hid xP
      have HU1 := hid HU.out.one
      replace HR2 := hid (HR2.out.kept K)
      replace M := M.call K
      clear K xP
      go_wp2_with (first
        | ((with_reducible apply W_buildIt (u := u) (vs := #[u]) (s := 1) M); rfl; exact one_cells HU1.out; exact Salg.underlying140; exact size89; exact zsome89; rfl; decide; decide; clear M; intro bn w12 hbn hbn2 KB M; have hsz12 := KB.size; replace HR2 := hid (HR2.out.kept KB); replace HU := hid (HU.out.kept KB); clear KB; simp only [Act.put, List.setIfInBounds_toArray, List.set_cons_zero, List.set_cons_succ])
        | ((with_reducible apply W_appendK (bn := bn) (u := u) (xs := xs.take (n - 0)) M); exact info89; exact Salg.underlying140; rfl; decide; rfl; rfl; exact HT.out.kept M.kept; (simp; omega); exact M.r0; exact HU1.out; (have HSZ := M.kept.size); clear M; intro VV w13 M xO KA; have HOWN := hid xO; clear xO; have HVV := hid (RowV.own HOWN.out); replace HR2 := hid (HR2.out.kept KA); replace HU := hid (HU.out.kept KA); clear KA; simp only [Act.put, List.setIfInBounds_toArray, List.set_cons_zero, List.set_cons_succ])
        | ((with_reducible apply W_stV (b := fb) (o := q + 8) (v := VV)); rfl; rfl; exact HVV.out.one; exact M.kept.row hr (by simp); exact size140; exact hsz8; intro w21 K1 hr11)
        | ((with_reducible apply W_stV (b := fb) (o := q + 3) (v := rp)); rfl; rfl; exact HR2.out.one; exact hr11; exact size89; (simp; omega); intro w22 K2 hr12))
      go_end0
      have hrow := M.kept.row hr (by simp)
      have KK := K1.trans K2
      have HAP : Hid (xs.take (n - 0) = xs.take ns.length) := by
        show _ = _
        have := HXL.out
        rw [show n - 0 = ns.length by omega]
      have HNS : Hid (NumsV w22 (xs.take (n - 0) ++ [u]) (ns ++ [V])) := by
        have e1 := (((HXN.out.kept M.kept).keptC KK hrow HNB.out).take ns.length)
        rw [List.take_length] at e1
        rw [HAP.out]
        exact e1.push (HU.out.keptC KK hrow HNB.out)
      have hxl := HXL.out
      have hnl := HN.out
      refine ⟨_, rfl, (M.kept.mono (by simp)).trans KK, ⟨_, rp, gv, VV, xs.take (n - 0) ++ [u], hr12, by simp only [Array.size_setIfInBounds]; exact HSZ0.out, fun k k3 k4 k8 k9 => by rw [Array.getElem?_setIfInBounds_ne (by omega), Array.getElem?_setIfInBounds_ne (by omega)]; exact HFS.out k k3 k4 k8 k9, Array.getElem?_setIfInBounds_self_of_lt (by simp; omega), (HR2.out.off HSS.out).keptC KK hrow HNB.out, by rw [Array.getElem?_setIfInBounds_ne (by omega), Array.getElem?_setIfInBounds_ne (by omega)]; exact h4, (HGV.out.kept M.kept).keptC KK hrow HNB.out, by rw [Array.getElem?_setIfInBounds_ne (by omega), Array.getElem?_setIfInBounds_self_of_lt hsz8], (by first | exact HVV.out.keptC KK hrow (by decide) | (rw [← HN.out]; exact HVV.out.keptC KK hrow (by decide))), HNS.out, by rw [Array.getElem?_setIfInBounds_ne (by omega), Array.getElem?_setIfInBounds_ne (by omega)]; exact hmv, fun j v N e1 e2 e3 => ?_⟩⟩
      rw [List.getElem?_append_left (by simp; omega), List.getElem?_take_of_lt (by omega)] at e2
      rw [List.getElem?_append_left (by omega)] at e3
      exact ((HBO.out j v N (by omega) e2 (e3)).kept M.kept).keptC KK hrow HNB.out

set_option maxHeartbeats 4000000 in
set_option maxRecDepth 100000 in
theorem plainM_callvalue (S : List Nat) (rr r2 : Nat) (st : Value) (fb q m G A B C D V : Nat) (fs0 : Array Value) (mv : Value) (ns : List Nat) (w : World) (hS : ∀ b ∈ S, b < w.heap.size) (hF : FrameM S rr w fb q fs0 m G ns mv) (hl : ns.length ≤ 30) (hm : m ≤ 1000) (hr2 : r2 ≤ rr) (hr3 : r2 ≤ ns.length)
    (hV : ∀ w' ab (args : Array Value), Kept [] w w' → w'.heap[ab]? = some (.cells args 89 (0, 0)) → Calls Salg.prog 196 #[st, .pointer (some ⟨fb, q, none⟩), .int .u8 52, .slice (some ⟨ab, 0, none⟩) 0 0] w' fun e w'' => ∃ u, e = .returned u ∧ NumV w'' u V ∧ Kept [] w' w'') :
    Calls Salg.prog 120 #[st, .pointer (some ⟨fb, q, none⟩), .int .u8 52] w fun e w' => ∃ r, e = .returned r ∧ Kept [fb] w w' ∧ FrameM S r2 w' fb q fs0 (m + 1) G (ns ++ [V]) mv := by
  have M := Mem.start w []
  obtain ⟨fs, pv, gv, sv, xs, hr, hsz, hfs, h3, hp, h4, hgv, h8, hs, hxs, hmv, hbo⟩ := hF
  have hxl : xs.length = ns.length + 0 := by have := hxs.1; simpa using this
  have hl4 : xs.length ≤ 40 := by omega
  have hlt : 0 ≤ xs.length := by omega
  have HP := hid hp
  have HGV := hid hgv
  have HS := hid hs
  have HXN := hid hxs
  have HFS := hid hfs
  have HSZ0 := hid hsz
  have H1 := hid hxs.one
  have HBO := hid hbo
  have HSS := hid hS
  have HE := hid hV
  obtain ⟨p, cap, rfl⟩ : ∃ p cap, sv = .slice p xs.length cap := by
    rcases hs with ⟨rfl, rfl⟩ | ⟨g, cap, cur, rfl, _⟩
    · exact ⟨none, 0, rfl⟩
    · exact ⟨_, _, rfl⟩
  have HNB := hid (not_bytes_at (tc := 142) h8)
  have HCT := hid (HS.out.cut (xs.length - 0) (by omega))
  have hcap := HCT.out.1
  have HT : Hid (TightV w 89 (.slice p (xs.length - 0) (xs.length - 0)) (xs.take (xs.length - 0))) := HCT.out.2
  have HA := hid (fun w' (K : Kept [] w w') i (hi : i < xs.length) u hu => arg_q fb q fs _ u xs i w' (K.row hr (by simp)) h8 (HS.out.kept K) hi hu (by omega))
  have HAS := hid (fun i u (hi : i < 0) (hx : i < xs.length) hu => argsL_set (t := 0) (u := u) hi hx hu)
  have HAL := hid (fun i (h : i ≤ xs.length) (hi : i ≤ 0) => argsL_length (t := 0) h hi)
  have HAZ := hid (argsL_zero xs (0))
  have HAA := hid (argsL_all xs (0))
  have hsz8 : q + 8 < fs.size := (Array.getElem?_eq_some_iff.1 h8).1
  have hsz3 : q + 3 < fs.size := (Array.getElem?_eq_some_iff.1 h3).1
  clear hp hs HCT hgv hxs hfs hsz hbo hS hV
  have HXS : Hid (∀ i, i < xs.length → ∃ u, xs[xs.length - 1 - i]? = some u) := fun i hi => ⟨xs[xs.length - 1 - i], List.getElem?_eq_getElem (by omega)⟩
  have HNV : Hid (∀ i u w', i < xs.length → xs[xs.length - 1 - i]? = some u → Kept [] w w' → ∀ N, ns[ns.length + 0 - 1 - i]? = some N → NumV w' u N) := fun i u w' hi hu K N hN => (HXN.out.2 _ _ _ hu (by rw [hxl]; exact hN)).kept K
  obtain ⟨n, hn⟩ : ∃ n, n = xs.length := ⟨_, rfl⟩
  rw [← hn] at HT HA HAS HAL HXS hcap hl4 hlt h8 HNV hxl
  have HN := hid hn
  have HXL := hid hxl
  clear hn hxl
  go_enter Salg.func120, Salg.ntmps120
  go_wp2_with fail
  refine (arity_callvalue _).mono ?_
  rintro e w1 ⟨rfl, hw⟩
  replace hw := hw.symm
  subst hw
  go_wp2_with ((with_reducible apply W_makeV (n := 0) (s := 1) (cs := #[]) M); rfl; rfl; (first | rfl | omega); (first | rfl | omega); (first | decide | omega); exact Salg.underlying140; exact info89; rfl; decide; decide; decide; exact range1 _ _ rfl; clear M; intro ab w2 hab hab2 K M; clear K; simp only [Act.put, List.setIfInBounds_toArray, List.set_cons_zero, List.set_cons_succ])
  rw [show (#[] : Array Value) = (argsL xs 0 0).toArray from by rw [HAZ.out]; rfl] at M
  go_loopw [10, 24] (fun _ iv wr => ∃ i : Nat, i ≤ 0 ∧ iv = .int .i64 i ∧ Mem w [] [(ab, .cells (argsL xs i (0)).toArray 89 (0, 0))] wr) (fun _ iv _ => (((0 : Nat) : Int) - intOf iv).toNat)
  case atStart => exact ⟨0, by omega, rfl, M⟩
  case round =>
    clear M
    obtain ⟨i, hi, rfl, M⟩ := hrel
    rcases Nat.lt_or_ge i (0) with hlt2 | hge
    · exact absurd hlt2 (Nat.not_lt_zero _)
    · have hit : 0 = i := by omega
      subst hit
      clear hge HA HAS HAL
      rw [HAA.out] at M
      have HG := hid (fun i (hi : i < 0) => args_get (t := 0) (i := i) hi (by rw [← HN.out]; exact hlt))
      rw [← HN.out] at HG
      go_wp2_with fail
      refine S_region (by kernel_rfl) ?_
      refine E_stage 0 11 [0, 1, 2, 3, 4, 5, 6, 7, 8, 9, 10] (by kernel_rfl) M.drew ?_
      clear M
      simp only [List.filterMap_cons, List.filterMap_nil, List.getElem?_cons_zero, List.getElem?_cons_succ]
      ((with_reducible apply E_run); rfl; rfl; (intro w M; go_simp; (try go_ints); (try simp only [↓IntWalk.iteOmega]); (try with_reducible rfl)); simp only [Act.put, List.setIfInBounds_toArray, List.set_cons_zero, List.set_cons_succ])
      ((with_reducible apply E_run); rfl; rfl; (intro w M; go_simp; (try go_ints); (try simp only [↓IntWalk.iteOmega]); (try with_reducible rfl)); simp only [Act.put, List.setIfInBounds_toArray, List.set_cons_zero, List.set_cons_succ])
      ((with_reducible apply E_run); rfl; rfl; (intro w M; go_simp; (try go_ints); (try simp only [↓IntWalk.iteOmega]); (try with_reducible rfl)); simp only [Act.put, List.setIfInBounds_toArray, List.set_cons_zero, List.set_cons_succ])
      ((with_reducible apply E_run); rfl; rfl; (intro w M; exact run_loadCell (M.kept.row hr (by simp)) rfl h3 Salg.underlying89 rfl); simp only [Act.put, List.setIfInBounds_toArray, List.set_cons_zero, List.set_cons_succ])
      ((with_reducible apply E_run); rfl; rfl; (intro w M; go_simp; (try go_ints); (try simp only [↓IntWalk.iteOmega]); (try with_reducible rfl)); simp only [Act.put, List.setIfInBounds_toArray, List.set_cons_zero, List.set_cons_succ])
      refine E_call rfl Salg.func195 (by kernel_rfl) (by kernel_rfl) (args := [.int .u8 (52 : Int)]) rfl ?_
      intro w1 K M
      clear K
      refine (imm_other 52 _ (by decide)).mono ?_
      rintro e w4 ⟨rfl, hw⟩
      replace hw := hw.symm
      subst hw
      refine ⟨_, rfl, trivial, M, ?_⟩
      simp only [Act.put, List.setIfInBounds_toArray, List.set_cons_zero, List.set_cons_succ]
      ((with_reducible apply E_run); rfl; rfl; (intro w M; go_simp; (try go_ints); (try simp only [↓IntWalk.iteOmega]); (try with_reducible rfl)); simp only [Act.put, List.setIfInBounds_toArray, List.set_cons_zero, List.set_cons_succ])
      ((with_reducible apply E_run); rfl; rfl; (intro w M; go_simp; (try go_ints); (try simp only [↓IntWalk.iteOmega]); (try with_reducible rfl)); simp only [Act.put, List.setIfInBounds_toArray, List.set_cons_zero, List.set_cons_succ])
      refine E_call rfl Salg.func87 (by kernel_rfl) (by kernel_rfl) (args := [.int .u64 (((1 + 0 : Nat)) : Int)]) rfl ?_
      intro w1 K M
      clear K
      refine (num_int _ (1 + 0) (by rfl) (by omega) _).mono ?_
      rintro e w5 ⟨r1, rfl, xHR1, K⟩
      have HR1 := hid xHR1
      clear xHR1
      replace M := M.call K
      refine ⟨_, rfl, trivial, M, ?_⟩
      clear K
      simp only [Act.put, List.setIfInBounds_toArray, List.set_cons_zero, List.set_cons_succ]
      refine E_call rfl Salg.func68 (by kernel_rfl) (by kernel_rfl) (args := [pv, r1]) rfl ?_
      intro w1 K M
      replace HR1 := hid (HR1.out.kept K)
      clear K
      have hs6 := M.kept.size
      refine (add_fresh _ _ _ _ _ (HP.out.num.kept M.kept) HR1.out (by omega) (by omega)).mono ?_
      rintro e w6 ⟨rp, rfl, xHR2, K⟩
      have HR2 := hid (xHR2.older hs6)
      clear xHR2
      replace HR1 := hid (HR1.out.kept K)
      replace M := M.call K
      refine ⟨_, rfl, trivial, M, ?_⟩
      clear K
      simp only [Act.put, List.setIfInBounds_toArray, List.set_cons_zero, List.set_cons_succ]
      ((with_reducible apply E_run); rfl; rfl; (intro w M; go_simp; (try go_ints); (try simp only [↓IntWalk.iteOmega]); (try with_reducible rfl)); simp only [Act.put, List.setIfInBounds_toArray, List.set_cons_zero, List.set_cons_succ])
      refine E_nil ?_
      intro w9 K M
      replace HR2 := hid (HR2.out.kept K)
      clear K
      refine S_done ?_
      go_wp2_with fail
      refine S_region (by kernel_rfl) ?_
      replace HR2 := hid (HR2.out.kept (Kept.refl [] _).drew)
      refine E_stage 0 20 [0, 1, 2, 3, 4, 5, 6, 7, 8, 9, 10, 11, 12, 13, 14, 15, 16, 17, 18, 19] (by kernel_rfl) M.drew ?_
      clear M
      simp only [List.filterMap_cons, List.filterMap_nil, List.getElem?_cons_zero, List.getElem?_cons_succ]
      ((with_reducible apply E_run); rfl; rfl; (intro w M; go_simp; (try go_ints); (try simp only [↓IntWalk.iteOmega]); (try with_reducible rfl)); simp only [Act.put, List.setIfInBounds_toArray, List.set_cons_zero, List.set_cons_succ])
      ((with_reducible apply E_run); rfl; rfl; (intro w M; go_simp; (try go_ints); (try simp only [↓IntWalk.iteOmega]); (try with_reducible rfl)); simp only [Act.put, List.setIfInBounds_toArray, List.set_cons_zero, List.set_cons_succ])
      ((with_reducible apply E_run); rfl; rfl; (intro w M; go_simp; (try go_ints); (try simp only [↓IntWalk.iteOmega]); (try with_reducible rfl)); simp only [Act.put, List.setIfInBounds_toArray, List.set_cons_zero, List.set_cons_succ])
      ((with_reducible apply E_run); rfl; rfl; (intro w M; exact run_loadCell (M.kept.row hr (by simp)) rfl h8 Salg.underlying140 rfl); simp only [Act.put, List.setIfInBounds_toArray, List.set_cons_zero, List.set_cons_succ])
      ((with_reducible apply E_run); rfl; rfl; (intro w M; go_simp; (try go_ints); (try simp only [↓IntWalk.iteOmega]); (try with_reducible rfl)); simp only [Act.put, List.setIfInBounds_toArray, List.set_cons_zero, List.set_cons_succ])
      ((with_reducible apply E_run); rfl; rfl; (intro w M; go_simp; (try go_ints); (try simp only [↓IntWalk.iteOmega]); (try with_reducible rfl)); simp only [Act.put, List.setIfInBounds_toArray, List.set_cons_zero, List.set_cons_succ])
      ((with_reducible apply E_run); rfl; rfl; (intro w M; go_simp; (try go_ints); (try simp only [↓IntWalk.iteOmega]); (try with_reducible rfl)); simp only [Act.put, List.setIfInBounds_toArray, List.set_cons_zero, List.set_cons_succ])
      ((with_reducible apply E_run); rfl; rfl; (intro w M; exact run_loadCell (M.kept.row hr (by simp)) rfl h8 Salg.underlying140 rfl); simp only [Act.put, List.setIfInBounds_toArray, List.set_cons_zero, List.set_cons_succ])
      ((with_reducible apply E_run); rfl; rfl; (intro w M; go_simp; (try go_ints); (try simp only [↓IntWalk.iteOmega]); (try with_reducible rfl)); simp only [Act.put, List.setIfInBounds_toArray, List.set_cons_zero, List.set_cons_succ])
      ((with_reducible apply E_run); rfl; rfl; (intro w M; go_simp; (try go_ints); (try simp only [↓IntWalk.iteOmega]); (try with_reducible rfl)); simp only [Act.put, List.setIfInBounds_toArray, List.set_cons_zero, List.set_cons_succ])
      ((with_reducible apply E_run); rfl; rfl; (intro w M; go_simp; (try go_ints); (try simp only [↓IntWalk.iteOmega]); (try with_reducible rfl)); simp only [Act.put, List.setIfInBounds_toArray, List.set_cons_zero, List.set_cons_succ])
      ((with_reducible apply E_run); rfl; rfl; (intro w M; go_simp; (try go_ints); (try simp only [↓IntWalk.iteOmega]); (try with_reducible rfl)); simp only [Act.put, List.setIfInBounds_toArray, List.set_cons_zero, List.set_cons_succ])
      ((with_reducible apply E_run); rfl; rfl; (intro w M; go_simp; (try go_ints); (try simp only [↓IntWalk.iteOmega]); (try with_reducible rfl)); simp only [Act.put, List.setIfInBounds_toArray, List.set_cons_zero, List.set_cons_succ])
      ((with_reducible apply E_run); rfl; rfl; (intro w M; go_simp; (try go_ints); (try simp only [↓IntWalk.iteOmega]); (try with_reducible rfl)); simp only [Act.put, List.setIfInBounds_toArray, List.set_cons_zero, List.set_cons_succ])
      ((with_reducible apply E_run); rfl; rfl; (intro w M; exact run_loadCell (M.kept.row hr (by simp)) rfl h8 Salg.underlying140 rfl); simp only [Act.put, List.setIfInBounds_toArray, List.set_cons_zero, List.set_cons_succ])
      ((with_reducible apply E_run); rfl; rfl; (intro w M; go_simp; (try go_ints); (try simp only [↓IntWalk.iteOmega]); (try with_reducible rfl)); simp only [Act.put, List.setIfInBounds_toArray, List.set_cons_zero, List.set_cons_succ])
      ((with_reducible apply E_run); rfl; rfl; (intro w M; go_simp; (try go_ints); (try simp only [↓IntWalk.iteOmega]); (try with_reducible rfl)); simp only [Act.put, List.setIfInBounds_toArray, List.set_cons_zero, List.set_cons_succ])
      ((with_reducible apply E_run); rfl; rfl; (intro w M; go_simp; (try go_ints); (try simp only [↓IntWalk.iteOmega]); (try with_reducible rfl)); simp only [Act.put, List.setIfInBounds_toArray, List.set_cons_zero, List.set_cons_succ])
      ((with_reducible apply E_run); rfl; rfl; (intro w M; exact run_slice3 (n := n - 0) rfl rfl rfl (by omega) (by omega) Salg.underlying140 ⟨1, size89⟩ hcap); simp only [Act.put, List.setIfInBounds_toArray, List.set_cons_zero, List.set_cons_succ])
      ((with_reducible apply E_run); rfl; rfl; (intro w M; go_simp; (try go_ints); (try simp only [↓IntWalk.iteOmega]); (try with_reducible rfl)); simp only [Act.put, List.setIfInBounds_toArray, List.set_cons_zero, List.set_cons_succ])
      refine E_nil ?_
      intro w10 K M
      replace HR2 := hid (HR2.out.kept K)
      clear K
      refine S_done ?_
      go_wp2_with fail
      refine (HE.out _ ab _ M.kept M.r0  ).mono ?_
      rintro e w11 ⟨u, rfl, xP, K⟩
      have HU := hid xP
      have HU1 := hid HU.out.one
      replace HR2 := hid (HR2.out.kept K)
      replace M := M.call K
      clear K xP
      go_wp2_with (first
        | ((with_reducible apply W_buildIt (u := u) (vs := #[u]) (s := 1) M); rfl; exact one_cells HU1.out; exact Salg.underlying140; exact size89; exact zsome89; rfl; decide; decide; clear M; intro bn w12 hbn hbn2 KB M; have hsz12 := KB.size; replace HR2 := hid (HR2.out.kept KB); replace HU := hid (HU.out.kept KB); clear KB; simp only [Act.put, List.setIfInBounds_toArray, List.set_cons_zero, List.set_cons_succ])
        | ((with_reducible apply W_appendK (bn := bn) (u := u) (xs := xs.take (n - 0)) M); exact info89; exact Salg.underlying140; rfl; decide; rfl; rfl; exact HT.out.kept M.kept; (simp; omega); exact M.r0; exact HU1.out; (have HSZ := M.kept.size); clear M; intro VV w13 M xO KA; have HOWN := hid xO; clear xO; have HVV := hid (RowV.own HOWN.out); replace HR2 := hid (HR2.out.kept KA); replace HU := hid (HU.out.kept KA); clear KA; simp only [Act.put, List.setIfInBounds_toArray, List.set_cons_zero, List.set_cons_succ])
        | ((with_reducible apply W_stV (b := fb) (o := q + 8) (v := VV)); rfl; rfl; exact HVV.out.one; exact M.kept.row hr (by simp); exact size140; exact hsz8; intro w21 K1 hr11)
        | ((with_reducible apply W_stV (b := fb) (o := q + 3) (v := rp)); rfl; rfl; exact HR2.out.one; exact hr11; exact size89; (simp; omega); intro w22 K2 hr12))
      go_end0
      have hrow := M.kept.row hr (by simp)
      have KK := K1.trans K2
      have HAP : Hid (xs.take (n - 0) = xs.take ns.length) := by
        show _ = _
        have := HXL.out
        rw [show n - 0 = ns.length by omega]
      have HNS : Hid (NumsV w22 (xs.take (n - 0) ++ [u]) (ns ++ [V])) := by
        have e1 := (((HXN.out.kept M.kept).keptC KK hrow HNB.out).take ns.length)
        rw [List.take_length] at e1
        rw [HAP.out]
        exact e1.push (HU.out.keptC KK hrow HNB.out)
      have hxl := HXL.out
      have hnl := HN.out
      refine ⟨_, rfl, (M.kept.mono (by simp)).trans KK, ⟨_, rp, gv, VV, xs.take (n - 0) ++ [u], hr12, by simp only [Array.size_setIfInBounds]; exact HSZ0.out, fun k k3 k4 k8 k9 => by rw [Array.getElem?_setIfInBounds_ne (by omega), Array.getElem?_setIfInBounds_ne (by omega)]; exact HFS.out k k3 k4 k8 k9, Array.getElem?_setIfInBounds_self_of_lt (by simp; omega), (HR2.out.off HSS.out).keptC KK hrow HNB.out, by rw [Array.getElem?_setIfInBounds_ne (by omega), Array.getElem?_setIfInBounds_ne (by omega)]; exact h4, (HGV.out.kept M.kept).keptC KK hrow HNB.out, by rw [Array.getElem?_setIfInBounds_ne (by omega), Array.getElem?_setIfInBounds_self_of_lt hsz8], (by first | exact HVV.out.keptC KK hrow (by decide) | (rw [← HN.out]; exact HVV.out.keptC KK hrow (by decide))), HNS.out, by rw [Array.getElem?_setIfInBounds_ne (by omega), Array.getElem?_setIfInBounds_ne (by omega)]; exact hmv, fun j v N e1 e2 e3 => ?_⟩⟩
      rw [List.getElem?_append_left (by simp; omega), List.getElem?_take_of_lt (by omega)] at e2
      rw [List.getElem?_append_left (by omega)] at e3
      exact ((HBO.out j v N (by omega) e2 (e3)).kept M.kept).keptC KK hrow HNB.out

set_option maxHeartbeats 4000000 in
set_option maxRecDepth 100000 in
theorem plainM_returndatasize (S : List Nat) (rr r2 : Nat) (st : Value) (fb q m G A B C D V : Nat) (fs0 : Array Value) (mv : Value) (ns : List Nat) (w : World) (hS : ∀ b ∈ S, b < w.heap.size) (hF : FrameM S rr w fb q fs0 m G ns mv) (hl : ns.length ≤ 30) (hm : m ≤ 1000) (hr2 : r2 ≤ rr) (hr3 : r2 ≤ ns.length)
    (hV : ∀ w' ab (args : Array Value), Kept [] w w' → w'.heap[ab]? = some (.cells args 89 (0, 0)) → Calls Salg.prog 196 #[st, .pointer (some ⟨fb, q, none⟩), .int .u8 61, .slice (some ⟨ab, 0, none⟩) 0 0] w' fun e w'' => ∃ u, e = .returned u ∧ NumV w'' u V ∧ Kept [] w' w'') :
    Calls Salg.prog 120 #[st, .pointer (some ⟨fb, q, none⟩), .int .u8 61] w fun e w' => ∃ r, e = .returned r ∧ Kept [fb] w w' ∧ FrameM S r2 w' fb q fs0 (m + 1) G (ns ++ [V]) mv := by
  have M := Mem.start w []
  obtain ⟨fs, pv, gv, sv, xs, hr, hsz, hfs, h3, hp, h4, hgv, h8, hs, hxs, hmv, hbo⟩ := hF
  have hxl : xs.length = ns.length + 0 := by have := hxs.1; simpa using this
  have hl4 : xs.length ≤ 40 := by omega
  have hlt : 0 ≤ xs.length := by omega
  have HP := hid hp
  have HGV := hid hgv
  have HS := hid hs
  have HXN := hid hxs
  have HFS := hid hfs
  have HSZ0 := hid hsz
  have H1 := hid hxs.one
  have HBO := hid hbo
  have HSS := hid hS
  have HE := hid hV
  obtain ⟨p, cap, rfl⟩ : ∃ p cap, sv = .slice p xs.length cap := by
    rcases hs with ⟨rfl, rfl⟩ | ⟨g, cap, cur, rfl, _⟩
    · exact ⟨none, 0, rfl⟩
    · exact ⟨_, _, rfl⟩
  have HNB := hid (not_bytes_at (tc := 142) h8)
  have HCT := hid (HS.out.cut (xs.length - 0) (by omega))
  have hcap := HCT.out.1
  have HT : Hid (TightV w 89 (.slice p (xs.length - 0) (xs.length - 0)) (xs.take (xs.length - 0))) := HCT.out.2
  have HA := hid (fun w' (K : Kept [] w w') i (hi : i < xs.length) u hu => arg_q fb q fs _ u xs i w' (K.row hr (by simp)) h8 (HS.out.kept K) hi hu (by omega))
  have HAS := hid (fun i u (hi : i < 0) (hx : i < xs.length) hu => argsL_set (t := 0) (u := u) hi hx hu)
  have HAL := hid (fun i (h : i ≤ xs.length) (hi : i ≤ 0) => argsL_length (t := 0) h hi)
  have HAZ := hid (argsL_zero xs (0))
  have HAA := hid (argsL_all xs (0))
  have hsz8 : q + 8 < fs.size := (Array.getElem?_eq_some_iff.1 h8).1
  have hsz3 : q + 3 < fs.size := (Array.getElem?_eq_some_iff.1 h3).1
  clear hp hs HCT hgv hxs hfs hsz hbo hS hV
  have HXS : Hid (∀ i, i < xs.length → ∃ u, xs[xs.length - 1 - i]? = some u) := fun i hi => ⟨xs[xs.length - 1 - i], List.getElem?_eq_getElem (by omega)⟩
  have HNV : Hid (∀ i u w', i < xs.length → xs[xs.length - 1 - i]? = some u → Kept [] w w' → ∀ N, ns[ns.length + 0 - 1 - i]? = some N → NumV w' u N) := fun i u w' hi hu K N hN => (HXN.out.2 _ _ _ hu (by rw [hxl]; exact hN)).kept K
  obtain ⟨n, hn⟩ : ∃ n, n = xs.length := ⟨_, rfl⟩
  rw [← hn] at HT HA HAS HAL HXS hcap hl4 hlt h8 HNV hxl
  have HN := hid hn
  have HXL := hid hxl
  clear hn hxl
  go_enter Salg.func120, Salg.ntmps120
  go_wp2_with fail
  refine (arity_returndatasize _).mono ?_
  rintro e w1 ⟨rfl, hw⟩
  replace hw := hw.symm
  subst hw
  go_wp2_with ((with_reducible apply W_makeV (n := 0) (s := 1) (cs := #[]) M); rfl; rfl; (first | rfl | omega); (first | rfl | omega); (first | decide | omega); exact Salg.underlying140; exact info89; rfl; decide; decide; decide; exact range1 _ _ rfl; clear M; intro ab w2 hab hab2 K M; clear K; simp only [Act.put, List.setIfInBounds_toArray, List.set_cons_zero, List.set_cons_succ])
  rw [show (#[] : Array Value) = (argsL xs 0 0).toArray from by rw [HAZ.out]; rfl] at M
  go_loopw [10, 24] (fun _ iv wr => ∃ i : Nat, i ≤ 0 ∧ iv = .int .i64 i ∧ Mem w [] [(ab, .cells (argsL xs i (0)).toArray 89 (0, 0))] wr) (fun _ iv _ => (((0 : Nat) : Int) - intOf iv).toNat)
  case atStart => exact ⟨0, by omega, rfl, M⟩
  case round =>
    clear M
    obtain ⟨i, hi, rfl, M⟩ := hrel
    rcases Nat.lt_or_ge i (0) with hlt2 | hge
    · exact absurd hlt2 (Nat.not_lt_zero _)
    · have hit : 0 = i := by omega
      subst hit
      clear hge HA HAS HAL
      rw [HAA.out] at M
      have HG := hid (fun i (hi : i < 0) => args_get (t := 0) (i := i) hi (by rw [← HN.out]; exact hlt))
      rw [← HN.out] at HG
      go_wp2_with fail
      refine S_region (by kernel_rfl) ?_
      refine E_stage 0 11 [0, 1, 2, 3, 4, 5, 6, 7, 8, 9, 10] (by kernel_rfl) M.drew ?_
      clear M
      simp only [List.filterMap_cons, List.filterMap_nil, List.getElem?_cons_zero, List.getElem?_cons_succ]
      ((with_reducible apply E_run); rfl; rfl; (intro w M; go_simp; (try go_ints); (try simp only [↓IntWalk.iteOmega]); (try with_reducible rfl)); simp only [Act.put, List.setIfInBounds_toArray, List.set_cons_zero, List.set_cons_succ])
      ((with_reducible apply E_run); rfl; rfl; (intro w M; go_simp; (try go_ints); (try simp only [↓IntWalk.iteOmega]); (try with_reducible rfl)); simp only [Act.put, List.setIfInBounds_toArray, List.set_cons_zero, List.set_cons_succ])
      ((with_reducible apply E_run); rfl; rfl; (intro w M; go_simp; (try go_ints); (try simp only [↓IntWalk.iteOmega]); (try with_reducible rfl)); simp only [Act.put, List.setIfInBounds_toArray, List.set_cons_zero, List.set_cons_succ])
      ((with_reducible apply E_run); rfl; rfl; (intro w M; exact run_loadCell (M.kept.row hr (by simp)) rfl h3 Salg.underlying89 rfl); simp only [Act.put, List.setIfInBounds_toArray, List.set_cons_zero, List.set_cons_succ])
      ((with_reducible apply E_run); rfl; rfl; (intro w M; go_simp; (try go_ints); (try simp only [↓IntWalk.iteOmega]); (try with_reducible rfl)); simp only [Act.put, List.setIfInBounds_toArray, List.set_cons_zero, List.set_cons_succ])
      refine E_call rfl Salg.func195 (by kernel_rfl) (by kernel_rfl) (args := [.int .u8 (61 : Int)]) rfl ?_
      intro w1 K M
      clear K
      refine (imm_other 61 _ (by decide)).mono ?_
      rintro e w4 ⟨rfl, hw⟩
      replace hw := hw.symm
      subst hw
      refine ⟨_, rfl, trivial, M, ?_⟩
      simp only [Act.put, List.setIfInBounds_toArray, List.set_cons_zero, List.set_cons_succ]
      ((with_reducible apply E_run); rfl; rfl; (intro w M; go_simp; (try go_ints); (try simp only [↓IntWalk.iteOmega]); (try with_reducible rfl)); simp only [Act.put, List.setIfInBounds_toArray, List.set_cons_zero, List.set_cons_succ])
      ((with_reducible apply E_run); rfl; rfl; (intro w M; go_simp; (try go_ints); (try simp only [↓IntWalk.iteOmega]); (try with_reducible rfl)); simp only [Act.put, List.setIfInBounds_toArray, List.set_cons_zero, List.set_cons_succ])
      refine E_call rfl Salg.func87 (by kernel_rfl) (by kernel_rfl) (args := [.int .u64 (((1 + 0 : Nat)) : Int)]) rfl ?_
      intro w1 K M
      clear K
      refine (num_int _ (1 + 0) (by rfl) (by omega) _).mono ?_
      rintro e w5 ⟨r1, rfl, xHR1, K⟩
      have HR1 := hid xHR1
      clear xHR1
      replace M := M.call K
      refine ⟨_, rfl, trivial, M, ?_⟩
      clear K
      simp only [Act.put, List.setIfInBounds_toArray, List.set_cons_zero, List.set_cons_succ]
      refine E_call rfl Salg.func68 (by kernel_rfl) (by kernel_rfl) (args := [pv, r1]) rfl ?_
      intro w1 K M
      replace HR1 := hid (HR1.out.kept K)
      clear K
      have hs6 := M.kept.size
      refine (add_fresh _ _ _ _ _ (HP.out.num.kept M.kept) HR1.out (by omega) (by omega)).mono ?_
      rintro e w6 ⟨rp, rfl, xHR2, K⟩
      have HR2 := hid (xHR2.older hs6)
      clear xHR2
      replace HR1 := hid (HR1.out.kept K)
      replace M := M.call K
      refine ⟨_, rfl, trivial, M, ?_⟩
      clear K
      simp only [Act.put, List.setIfInBounds_toArray, List.set_cons_zero, List.set_cons_succ]
      ((with_reducible apply E_run); rfl; rfl; (intro w M; go_simp; (try go_ints); (try simp only [↓IntWalk.iteOmega]); (try with_reducible rfl)); simp only [Act.put, List.setIfInBounds_toArray, List.set_cons_zero, List.set_cons_succ])
      refine E_nil ?_
      intro w9 K M
      replace HR2 := hid (HR2.out.kept K)
      clear K
      refine S_done ?_
      go_wp2_with fail
      refine S_region (by kernel_rfl) ?_
      replace HR2 := hid (HR2.out.kept (Kept.refl [] _).drew)
      refine E_stage 0 20 [0, 1, 2, 3, 4, 5, 6, 7, 8, 9, 10, 11, 12, 13, 14, 15, 16, 17, 18, 19] (by kernel_rfl) M.drew ?_
      clear M
      simp only [List.filterMap_cons, List.filterMap_nil, List.getElem?_cons_zero, List.getElem?_cons_succ]
      ((with_reducible apply E_run); rfl; rfl; (intro w M; go_simp; (try go_ints); (try simp only [↓IntWalk.iteOmega]); (try with_reducible rfl)); simp only [Act.put, List.setIfInBounds_toArray, List.set_cons_zero, List.set_cons_succ])
      ((with_reducible apply E_run); rfl; rfl; (intro w M; go_simp; (try go_ints); (try simp only [↓IntWalk.iteOmega]); (try with_reducible rfl)); simp only [Act.put, List.setIfInBounds_toArray, List.set_cons_zero, List.set_cons_succ])
      ((with_reducible apply E_run); rfl; rfl; (intro w M; go_simp; (try go_ints); (try simp only [↓IntWalk.iteOmega]); (try with_reducible rfl)); simp only [Act.put, List.setIfInBounds_toArray, List.set_cons_zero, List.set_cons_succ])
      ((with_reducible apply E_run); rfl; rfl; (intro w M; exact run_loadCell (M.kept.row hr (by simp)) rfl h8 Salg.underlying140 rfl); simp only [Act.put, List.setIfInBounds_toArray, List.set_cons_zero, List.set_cons_succ])
      ((with_reducible apply E_run); rfl; rfl; (intro w M; go_simp; (try go_ints); (try simp only [↓IntWalk.iteOmega]); (try with_reducible rfl)); simp only [Act.put, List.setIfInBounds_toArray, List.set_cons_zero, List.set_cons_succ])
      ((with_reducible apply E_run); rfl; rfl; (intro w M; go_simp; (try go_ints); (try simp only [↓IntWalk.iteOmega]); (try with_reducible rfl)); simp only [Act.put, List.setIfInBounds_toArray, List.set_cons_zero, List.set_cons_succ])
      ((with_reducible apply E_run); rfl; rfl; (intro w M; go_simp; (try go_ints); (try simp only [↓IntWalk.iteOmega]); (try with_reducible rfl)); simp only [Act.put, List.setIfInBounds_toArray, List.set_cons_zero, List.set_cons_succ])
      ((with_reducible apply E_run); rfl; rfl; (intro w M; exact run_loadCell (M.kept.row hr (by simp)) rfl h8 Salg.underlying140 rfl); simp only [Act.put, List.setIfInBounds_toArray, List.set_cons_zero, List.set_cons_succ])
      ((with_reducible apply E_run); rfl; rfl; (intro w M; go_simp; (try go_ints); (try simp only [↓IntWalk.iteOmega]); (try with_reducible rfl)); simp only [Act.put, List.setIfInBounds_toArray, List.set_cons_zero, List.set_cons_succ])
      ((with_reducible apply E_run); rfl; rfl; (intro w M; go_simp; (try go_ints); (try simp only [↓IntWalk.iteOmega]); (try with_reducible rfl)); simp only [Act.put, List.setIfInBounds_toArray, List.set_cons_zero, List.set_cons_succ])
      ((with_reducible apply E_run); rfl; rfl; (intro w M; go_simp; (try go_ints); (try simp only [↓IntWalk.iteOmega]); (try with_reducible rfl)); simp only [Act.put, List.setIfInBounds_toArray, List.set_cons_zero, List.set_cons_succ])
      ((with_reducible apply E_run); rfl; rfl; (intro w M; go_simp; (try go_ints); (try simp only [↓IntWalk.iteOmega]); (try with_reducible rfl)); simp only [Act.put, List.setIfInBounds_toArray, List.set_cons_zero, List.set_cons_succ])
      ((with_reducible apply E_run); rfl; rfl; (intro w M; go_simp; (try go_ints); (try simp only [↓IntWalk.iteOmega]); (try with_reducible rfl)); simp only [Act.put, List.setIfInBounds_toArray, List.set_cons_zero, List.set_cons_succ])
      ((with_reducible apply E_run); rfl; rfl; (intro w M; go_simp; (try go_ints); (try simp only [↓IntWalk.iteOmega]); (try with_reducible rfl)); simp only [Act.put, List.setIfInBounds_toArray, List.set_cons_zero, List.set_cons_succ])
      ((with_reducible apply E_run); rfl; rfl; (intro w M; exact run_loadCell (M.kept.row hr (by simp)) rfl h8 Salg.underlying140 rfl); simp only [Act.put, List.setIfInBounds_toArray, List.set_cons_zero, List.set_cons_succ])
      ((with_reducible apply E_run); rfl; rfl; (intro w M; go_simp; (try go_ints); (try simp only [↓IntWalk.iteOmega]); (try with_reducible rfl)); simp only [Act.put, List.setIfInBounds_toArray, List.set_cons_zero, List.set_cons_succ])
      ((with_reducible apply E_run); rfl; rfl; (intro w M; go_simp; (try go_ints); (try simp only [↓IntWalk.iteOmega]); (try with_reducible rfl)); simp only [Act.put, List.setIfInBounds_toArray, List.set_cons_zero, List.set_cons_succ])
      ((with_reducible apply E_run); rfl; rfl; (intro w M; go_simp; (try go_ints); (try simp only [↓IntWalk.iteOmega]); (try with_reducible rfl)); simp only [Act.put, List.setIfInBounds_toArray, List.set_cons_zero, List.set_cons_succ])
      ((with_reducible apply E_run); rfl; rfl; (intro w M; exact run_slice3 (n := n - 0) rfl rfl rfl (by omega) (by omega) Salg.underlying140 ⟨1, size89⟩ hcap); simp only [Act.put, List.setIfInBounds_toArray, List.set_cons_zero, List.set_cons_succ])
      ((with_reducible apply E_run); rfl; rfl; (intro w M; go_simp; (try go_ints); (try simp only [↓IntWalk.iteOmega]); (try with_reducible rfl)); simp only [Act.put, List.setIfInBounds_toArray, List.set_cons_zero, List.set_cons_succ])
      refine E_nil ?_
      intro w10 K M
      replace HR2 := hid (HR2.out.kept K)
      clear K
      refine S_done ?_
      go_wp2_with fail
      refine (HE.out _ ab _ M.kept M.r0  ).mono ?_
      rintro e w11 ⟨u, rfl, xP, K⟩
      have HU := hid xP
      have HU1 := hid HU.out.one
      replace HR2 := hid (HR2.out.kept K)
      replace M := M.call K
      clear K xP
      go_wp2_with (first
        | ((with_reducible apply W_buildIt (u := u) (vs := #[u]) (s := 1) M); rfl; exact one_cells HU1.out; exact Salg.underlying140; exact size89; exact zsome89; rfl; decide; decide; clear M; intro bn w12 hbn hbn2 KB M; have hsz12 := KB.size; replace HR2 := hid (HR2.out.kept KB); replace HU := hid (HU.out.kept KB); clear KB; simp only [Act.put, List.setIfInBounds_toArray, List.set_cons_zero, List.set_cons_succ])
        | ((with_reducible apply W_appendK (bn := bn) (u := u) (xs := xs.take (n - 0)) M); exact info89; exact Salg.underlying140; rfl; decide; rfl; rfl; exact HT.out.kept M.kept; (simp; omega); exact M.r0; exact HU1.out; (have HSZ := M.kept.size); clear M; intro VV w13 M xO KA; have HOWN := hid xO; clear xO; have HVV := hid (RowV.own HOWN.out); replace HR2 := hid (HR2.out.kept KA); replace HU := hid (HU.out.kept KA); clear KA; simp only [Act.put, List.setIfInBounds_toArray, List.set_cons_zero, List.set_cons_succ])
        | ((with_reducible apply W_stV (b := fb) (o := q + 8) (v := VV)); rfl; rfl; exact HVV.out.one; exact M.kept.row hr (by simp); exact size140; exact hsz8; intro w21 K1 hr11)
        | ((with_reducible apply W_stV (b := fb) (o := q + 3) (v := rp)); rfl; rfl; exact HR2.out.one; exact hr11; exact size89; (simp; omega); intro w22 K2 hr12))
      go_end0
      have hrow := M.kept.row hr (by simp)
      have KK := K1.trans K2
      have HAP : Hid (xs.take (n - 0) = xs.take ns.length) := by
        show _ = _
        have := HXL.out
        rw [show n - 0 = ns.length by omega]
      have HNS : Hid (NumsV w22 (xs.take (n - 0) ++ [u]) (ns ++ [V])) := by
        have e1 := (((HXN.out.kept M.kept).keptC KK hrow HNB.out).take ns.length)
        rw [List.take_length] at e1
        rw [HAP.out]
        exact e1.push (HU.out.keptC KK hrow HNB.out)
      have hxl := HXL.out
      have hnl := HN.out
      refine ⟨_, rfl, (M.kept.mono (by simp)).trans KK, ⟨_, rp, gv, VV, xs.take (n - 0) ++ [u], hr12, by simp only [Array.size_setIfInBounds]; exact HSZ0.out, fun k k3 k4 k8 k9 => by rw [Array.getElem?_setIfInBounds_ne (by omega), Array.getElem?_setIfInBounds_ne (by omega)]; exact HFS.out k k3 k4 k8 k9, Array.getElem?_setIfInBounds_self_of_lt (by simp; omega), (HR2.out.off HSS.out).keptC KK hrow HNB.out, by rw [Array.getElem?_setIfInBounds_ne (by omega), Array.getElem?_setIfInBounds_ne (by omega)]; exact h4, (HGV.out.kept M.kept).keptC KK hrow HNB.out, by rw [Array.getElem?_setIfInBounds_ne (by omega), Array.getElem?_setIfInBounds_self_of_lt hsz8], (by first | exact HVV.out.keptC KK hrow (by decide) | (rw [← HN.out]; exact HVV.out.keptC KK hrow (by decide))), HNS.out, by rw [Array.getElem?_setIfInBounds_ne (by omega), Array.getElem?_setIfInBounds_ne (by omega)]; exact hmv, fun j v N e1 e2 e3 => ?_⟩⟩
      rw [List.getElem?_append_left (by simp; omega), List.getElem?_take_of_lt (by omega)] at e2
      rw [List.getElem?_append_left (by omega)] at e3
      exact ((HBO.out j v N (by omega) e2 (e3)).kept M.kept).keptC KK hrow HNB.out

set_option maxHeartbeats 4000000 in
set_option maxRecDepth 100000 in
theorem plainM_pop (S : List Nat) (rr r2 : Nat) (st : Value) (fb q m G A B C D V : Nat) (fs0 : Array Value) (mv : Value) (ns : List Nat) (w : World) (hS : ∀ b ∈ S, b < w.heap.size) (hF : FrameM S rr w fb q fs0 m G (ns ++ [A]) mv) (hl : ns.length ≤ 30) (hm : m ≤ 1000) (X : List Nat) (Post : World → Prop) (hX : Soft S X w) (hrr : ns.length ≤ rr)
    (hE : ∀ w' a ab (args : Array Value), Kept [] w w' → w'.heap[ab]? = some (.cells args 89 (0, 0)) → args[0]? = some a → NumV w' a A → Calls Salg.prog 197 #[st, .pointer (some ⟨fb, q, none⟩), .int .u8 80, .slice (some ⟨ab, 0, none⟩) 1 1] w' fun e w'' => e = .returned (.bool true) ∧ Post w'' ∧ Kept X w' w'') :
    Calls Salg.prog 120 #[st, .pointer (some ⟨fb, q, none⟩), .int .u8 80] w fun e w' => ∃ r w1, e = .returned r ∧ Post w1 ∧ Kept X w w1 ∧ Kept [fb] w1 w' ∧ FrameM S ns.length w' fb q fs0 (m + 1) G ns mv := by
  have M := Mem.start w []
  obtain ⟨fs, pv, gv, sv, xs, hr, hsz, hfs, h3, hp, h4, hgv, h8, hs, hxs, hmv, hbo⟩ := hF
  have hxl : xs.length = ns.length + 1 := by have := hxs.1; simpa using this
  have hl4 : xs.length ≤ 40 := by omega
  have hlt : 1 ≤ xs.length := by omega
  have HP := hid hp
  have HGV := hid hgv
  have HS := hid hs
  have HXN := hid hxs
  have HFS := hid hfs
  have HSZ0 := hid hsz
  have H1 := hid hxs.one
  have HBO := hid hbo
  have HSS := hid hS
  have HE := hid hE
  have HX := hid hX
  obtain ⟨p, cap, rfl⟩ : ∃ p cap, sv = .slice p xs.length cap := by
    rcases hs with ⟨rfl, rfl⟩ | ⟨g, cap, cur, rfl, _⟩
    · exact ⟨none, 0, rfl⟩
    · exact ⟨_, _, rfl⟩
  have HNB := hid (not_bytes_at (tc := 142) h8)
  have HCT := hid (HS.out.cut (xs.length - 1) (by omega))
  have hcap := HCT.out.1
  have HT : Hid (TightV w 89 (.slice p (xs.length - 1) (xs.length - 1)) (xs.take (xs.length - 1))) := HCT.out.2
  have HA := hid (fun w' (K : Kept [] w w') i (hi : i < xs.length) u hu => arg_q fb q fs _ u xs i w' (K.row hr (by simp)) h8 (HS.out.kept K) hi hu (by omega))
  have HAS := hid (fun i u (hi : i < 1) (hx : i < xs.length) hu => argsL_set (t := 1) (u := u) hi hx hu)
  have HAL := hid (fun i (h : i ≤ xs.length) (hi : i ≤ 1) => argsL_length (t := 1) h hi)
  have HAZ := hid (argsL_zero xs (1))
  have HAA := hid (argsL_all xs (1))
  have hsz8 : q + 8 < fs.size := (Array.getElem?_eq_some_iff.1 h8).1
  have hsz3 : q + 3 < fs.size := (Array.getElem?_eq_some_iff.1 h3).1
  clear hp hs HCT hgv hxs hfs hsz hbo hS hE hX
  have HXS : Hid (∀ i, i < xs.length → ∃ u, xs[xs.length - 1 - i]? = some u) := fun i hi => ⟨xs[xs.length - 1 - i], List.getElem?_eq_getElem (by omega)⟩
  have HNV : Hid (∀ i u w', i < xs.length → xs[xs.length - 1 - i]? = some u → Kept [] w w' → ∀ N, (ns ++ [A])[ns.length + 1 - 1 - i]? = some N → NumV w' u N) := fun i u w' hi hu K N hN => (HXN.out.2 _ _ _ hu (by rw [hxl]; exact hN)).kept K
  obtain ⟨n, hn⟩ : ∃ n, n = xs.length := ⟨_, rfl⟩
  rw [← hn] at HT HA HAS HAL HXS hcap hl4 hlt h8 HNV hxl
  have HN := hid hn
  have HXL := hid hxl
  clear hn hxl
  go_enter Salg.func120, Salg.ntmps120
  go_wp2_with fail
  refine (arity_pop _).mono ?_
  rintro e w1 ⟨rfl, hw⟩
  replace hw := hw.symm
  subst hw
  go_wp2_with ((with_reducible apply W_makeV (n := 1) (s := 1) (cs := (List.replicate (1) (.slice none 0 0)).toArray) M); rfl; rfl; (first | rfl | omega); (first | rfl | omega); (first | decide | omega); exact Salg.underlying140; exact info89; rfl; decide; decide; decide; exact range1 _ _ rfl; clear M; intro ab w2 hab hab2 K M; rw [← HAZ.out] at M; clear K; simp only [Act.put, List.setIfInBounds_toArray, List.set_cons_zero, List.set_cons_succ])
  go_loopw [10, 24] (fun _ iv wr => ∃ i : Nat, i ≤ 1 ∧ iv = .int .i64 i ∧ Mem w [] [(ab, .cells (argsL xs i (1)).toArray 89 (0, 0))] wr) (fun _ iv _ => (((1 : Nat) : Int) - intOf iv).toNat)
  case atStart => exact ⟨0, by omega, rfl, M⟩
  case round =>
    clear M
    obtain ⟨i, hi, rfl, M⟩ := hrel
    rcases Nat.lt_or_ge i (1) with hlt2 | hge
    · obtain ⟨u, hu⟩ := HXS.out i (by omega)
      have HAu := hid (HA.out _ M.kept i (by omega) u hu)
      have HAs := HAS.out i u hlt2 (by omega) hu
      have HAl := HAL.out i (by omega) (by omega)
      have hu1 := oneCell_mem H1.out hu
      have hsz3 : i < (argsL xs i (1)).toArray.size := by rw [List.size_toArray, HAl]; exact hlt2
      go_wp2_with fail
      refine (HAu.out).mono ?_
      rintro e w3 ⟨rfl, K⟩
      replace M := M.call K
      clear K
      go_wp2_with ((with_reducible apply W_stV (b := ab) (o := i) (v := u)); rfl; rfl; exact hu1; exact M.r0; exact size89; exact hsz3; intro w4 K hr4; rw [HAs] at hr4; replace M := Mem.callPut (L1 := []) M (Or.inr hab) K hr4; clear K hr4; simp only [List.nil_append] at M)
      go_roundw
      case rel => exact ⟨i + 1, by omega, by go_num, M⟩
      case measure => simp [intOf]; omega
    · have hit : 1 = i := by omega
      subst hit
      clear hge HA HAS HAL
      rw [HAA.out] at M
      have HG := hid (fun i (hi : i < 1) => args_get (t := 1) (i := i) hi (by rw [← HN.out]; exact hlt))
      rw [← HN.out] at HG
      go_wp2_with fail
      refine S_region (by kernel_rfl) ?_
      refine E_stage 0 11 [0, 1, 2, 3, 4, 5, 6, 7, 8, 9, 10] (by kernel_rfl) M.drew ?_
      clear M
      simp only [List.filterMap_cons, List.filterMap_nil, List.getElem?_cons_zero, List.getElem?_cons_succ]
      ((with_reducible apply E_run); rfl; rfl; (intro w M; go_simp; (try go_ints); (try simp only [↓IntWalk.iteOmega]); (try with_reducible rfl)); simp only [Act.put, List.setIfInBounds_toArray, List.set_cons_zero, List.set_cons_succ])
      ((with_reducible apply E_run); rfl; rfl; (intro w M; go_simp; (try go_ints); (try simp only [↓IntWalk.iteOmega]); (try with_reducible rfl)); simp only [Act.put, List.setIfInBounds_toArray, List.set_cons_zero, List.set_cons_succ])
      ((with_reducible apply E_run); rfl; rfl; (intro w M; go_simp; (try go_ints); (try simp only [↓IntWalk.iteOmega]); (try with_reducible rfl)); simp only [Act.put, List.setIfInBounds_toArray, List.set_cons_zero, List.set_cons_succ])
      ((with_reducible apply E_run); rfl; rfl; (intro w M; exact run_loadCell (M.kept.row hr (by simp)) rfl h3 Salg.underlying89 rfl); simp only [Act.put, List.setIfInBounds_toArray, List.set_cons_zero, List.set_cons_succ])
      ((with_reducible apply E_run); rfl; rfl; (intro w M; go_simp; (try go_ints); (try simp only [↓IntWalk.iteOmega]); (try with_reducible rfl)); simp only [Act.put, List.setIfInBounds_toArray, List.set_cons_zero, List.set_cons_succ])
      refine E_call rfl Salg.func195 (by kernel_rfl) (by kernel_rfl) (args := [.int .u8 (80 : Int)]) rfl ?_
      intro w1 K M
      clear K
      refine (imm_other 80 _ (by decide)).mono ?_
      rintro e w4 ⟨rfl, hw⟩
      replace hw := hw.symm
      subst hw
      refine ⟨_, rfl, trivial, M, ?_⟩
      simp only [Act.put, List.setIfInBounds_toArray, List.set_cons_zero, List.set_cons_succ]
      ((with_reducible apply E_run); rfl; rfl; (intro w M; go_simp; (try go_ints); (try simp only [↓IntWalk.iteOmega]); (try with_reducible rfl)); simp only [Act.put, List.setIfInBounds_toArray, List.set_cons_zero, List.set_cons_succ])
      ((with_reducible apply E_run); rfl; rfl; (intro w M; go_simp; (try go_ints); (try simp only [↓IntWalk.iteOmega]); (try with_reducible rfl)); simp only [Act.put, List.setIfInBounds_toArray, List.set_cons_zero, List.set_cons_succ])
      refine E_call rfl Salg.func87 (by kernel_rfl) (by kernel_rfl) (args := [.int .u64 (((1 + 0 : Nat)) : Int)]) rfl ?_
      intro w1 K M
      clear K
      refine (num_int _ (1 + 0) (by rfl) (by omega) _).mono ?_
      rintro e w5 ⟨r1, rfl, xHR1, K⟩
      have HR1 := hid xHR1
      clear xHR1
      replace M := M.call K
      refine ⟨_, rfl, trivial, M, ?_⟩
      clear K
      simp only [Act.put, List.setIfInBounds_toArray, List.set_cons_zero, List.set_cons_succ]
      refine E_call rfl Salg.func68 (by kernel_rfl) (by kernel_rfl) (args := [pv, r1]) rfl ?_
      intro w1 K M
      replace HR1 := hid (HR1.out.kept K)
      clear K
      have hs6 := M.kept.size
      refine (add_fresh _ _ _ _ _ (HP.out.num.kept M.kept) HR1.out (by omega) (by omega)).mono ?_
      rintro e w6 ⟨rp, rfl, xHR2, K⟩
      have HR2 := hid (xHR2.older hs6)
      clear xHR2
      replace HR1 := hid (HR1.out.kept K)
      replace M := M.call K
      refine ⟨_, rfl, trivial, M, ?_⟩
      clear K
      simp only [Act.put, List.setIfInBounds_toArray, List.set_cons_zero, List.set_cons_succ]
      ((with_reducible apply E_run); rfl; rfl; (intro w M; go_simp; (try go_ints); (try simp only [↓IntWalk.iteOmega]); (try with_reducible rfl)); simp only [Act.put, List.setIfInBounds_toArray, List.set_cons_zero, List.set_cons_succ])
      refine E_nil ?_
      intro w9 K M
      replace HR2 := hid (HR2.out.kept K)
      clear K
      refine S_done ?_
      go_wp2_with fail
      refine S_region (by kernel_rfl) ?_
      replace HR2 := hid (HR2.out.kept (Kept.refl [] _).drew)
      refine E_stage 0 20 [0, 1, 2, 3, 4, 5, 6, 7, 8, 9, 10, 11, 12, 13, 14, 15, 16, 17, 18, 19] (by kernel_rfl) M.drew ?_
      clear M
      simp only [List.filterMap_cons, List.filterMap_nil, List.getElem?_cons_zero, List.getElem?_cons_succ]
      ((with_reducible apply E_run); rfl; rfl; (intro w M; go_simp; (try go_ints); (try simp only [↓IntWalk.iteOmega]); (try with_reducible rfl)); simp only [Act.put, List.setIfInBounds_toArray, List.set_cons_zero, List.set_cons_succ])
      ((with_reducible apply E_run); rfl; rfl; (intro w M; go_simp; (try go_ints); (try simp only [↓IntWalk.iteOmega]); (try with_reducible rfl)); simp only [Act.put, List.setIfInBounds_toArray, List.set_cons_zero, List.set_cons_succ])
      ((with_reducible apply E_run); rfl; rfl; (intro w M; go_simp; (try go_ints); (try simp only [↓IntWalk.iteOmega]); (try with_reducible rfl)); simp only [Act.put, List.setIfInBounds_toArray, List.set_cons_zero, List.set_cons_succ])
      ((with_reducible apply E_run); rfl; rfl; (intro w M; exact run_loadCell (M.kept.row hr (by simp)) rfl h8 Salg.underlying140 rfl); simp only [Act.put, List.setIfInBounds_toArray, List.set_cons_zero, List.set_cons_succ])
      ((with_reducible apply E_run); rfl; rfl; (intro w M; go_simp; (try go_ints); (try simp only [↓IntWalk.iteOmega]); (try with_reducible rfl)); simp only [Act.put, List.setIfInBounds_toArray, List.set_cons_zero, List.set_cons_succ])
      ((with_reducible apply E_run); rfl; rfl; (intro w M; go_simp; (try go_ints); (try simp only [↓IntWalk.iteOmega]); (try with_reducible rfl)); simp only [Act.put, List.setIfInBounds_toArray, List.set_cons_zero, List.set_cons_succ])
      ((with_reducible apply E_run); rfl; rfl; (intro w M; go_simp; (try go_ints); (try simp only [↓IntWalk.iteOmega]); (try with_reducible rfl)); simp only [Act.put, List.setIfInBounds_toArray, List.set_cons_zero, List.set_cons_succ])
      ((with_reducible apply E_run); rfl; rfl; (intro w M; exact run_loadCell (M.kept.row hr (by simp)) rfl h8 Salg.underlying140 rfl); simp only [Act.put, List.setIfInBounds_toArray, List.set_cons_zero, List.set_cons_succ])
      ((with_reducible apply E_run); rfl; rfl; (intro w M; go_simp; (try go_ints); (try simp only [↓IntWalk.iteOmega]); (try with_reducible rfl)); simp only [Act.put, List.setIfInBounds_toArray, List.set_cons_zero, List.set_cons_succ])
      ((with_reducible apply E_run); rfl; rfl; (intro w M; go_simp; (try go_ints); (try simp only [↓IntWalk.iteOmega]); (try with_reducible rfl)); simp only [Act.put, List.setIfInBounds_toArray, List.set_cons_zero, List.set_cons_succ])
      ((with_reducible apply E_run); rfl; rfl; (intro w M; go_simp; (try go_ints); (try simp only [↓IntWalk.iteOmega]); (try with_reducible rfl)); simp only [Act.put, List.setIfInBounds_toArray, List.set_cons_zero, List.set_cons_succ])
      ((with_reducible apply E_run); rfl; rfl; (intro w M; go_simp; (try go_ints); (try simp only [↓IntWalk.iteOmega]); (try with_reducible rfl)); simp only [Act.put, List.setIfInBounds_toArray, List.set_cons_zero, List.set_cons_succ])
      ((with_reducible apply E_run); rfl; rfl; (intro w M; go_simp; (try go_ints); (try simp only [↓IntWalk.iteOmega]); (try with_reducible rfl)); simp only [Act.put, List.setIfInBounds_toArray, List.set_cons_zero, List.set_cons_succ])
      ((with_reducible apply E_run); rfl; rfl; (intro w M; go_simp; (try go_ints); (try simp only [↓IntWalk.iteOmega]); (try with_reducible rfl)); simp only [Act.put, List.setIfInBounds_toArray, List.set_cons_zero, List.set_cons_succ])
      ((with_reducible apply E_run); rfl; rfl; (intro w M; exact run_loadCell (M.kept.row hr (by simp)) rfl h8 Salg.underlying140 rfl); simp only [Act.put, List.setIfInBounds_toArray, List.set_cons_zero, List.set_cons_succ])
      ((with_reducible apply E_run); rfl; rfl; (intro w M; go_simp; (try go_ints); (try simp only [↓IntWalk.iteOmega]); (try with_reducible rfl)); simp only [Act.put, List.setIfInBounds_toArray, List.set_cons_zero, List.set_cons_succ])
      ((with_reducible apply E_run); rfl; rfl; (intro w M; go_simp; (try go_ints); (try simp only [↓IntWalk.iteOmega]); (try with_reducible rfl)); simp only [Act.put, List.setIfInBounds_toArray, List.set_cons_zero, List.set_cons_succ])
      ((with_reducible apply E_run); rfl; rfl; (intro w M; go_simp; (try go_ints); (try simp only [↓IntWalk.iteOmega]); (try with_reducible rfl)); simp only [Act.put, List.setIfInBounds_toArray, List.set_cons_zero, List.set_cons_succ])
      ((with_reducible apply E_run); rfl; rfl; (intro w M; exact run_slice3 (n := n - 1) rfl rfl rfl (by omega) (by omega) Salg.underlying140 ⟨1, size89⟩ hcap); simp only [Act.put, List.setIfInBounds_toArray, List.set_cons_zero, List.set_cons_succ])
      ((with_reducible apply E_run); rfl; rfl; (intro w M; go_simp; (try go_ints); (try simp only [↓IntWalk.iteOmega]); (try with_reducible rfl)); simp only [Act.put, List.setIfInBounds_toArray, List.set_cons_zero, List.set_cons_succ])
      refine E_nil ?_
      intro w10 K M
      replace HR2 := hid (HR2.out.kept K)
      clear K
      refine S_done ?_
      go_wp2_with fail
      obtain ⟨a, ha⟩ := HXS.out 0 (by omega)
      have Na := hid (HNV.out 0 a _ (by omega) ha M.kept A (by simp))
      have Ga := (HG.out 0 (by decide)).trans ha
      refine (HE.out _ a ab _ M.kept M.r0 (by simpa using Ga) Na.out).mono ?_
      rintro e w11 ⟨rfl, xP, K⟩
      have HPO := hid xP
      have hXw := HX.out.kept M.kept
      have hrow : w11.heap[fb]? = some (.cells fs 142 (0, 0)) := hXw.row K (M.kept.row hr (by simp)) (.inl rfl)
      have HR3 := hid ((HR2.out.off HSS.out).keptX K hXw)
      have HTR : Hid (RowV w11 89 (.slice p (n - 1) (n - 1)) (xs.take (n - 1))) := (HT.out.kept M.kept).row.keptX K hXw
      have HGV2 := hid ((HGV.out.kept M.kept).keptX K hXw)
      have HNX : Hid (∀ (j : Nat) (v : Value) (N : Nat), j < rr → xs[j]? = some v → (ns ++ [A])[j]? = some N → NumS S w11 v N) := fun j v N e1 e2 e3 => ((HBO.out j v N e1 e2 e3).kept M.kept).keptX K hXw
      have HKX := hid ((M.kept.mono (by simp)).trans K : Kept X w w11)
      have M2 := Mem.start w11 []
      clear M K xP hXw
      have HVV := HTR
      go_wp2_with (first
        | ((with_reducible apply W_stV (b := fb) (o := q + 8) (v := (Value.slice p (n - 1) (n - 1)))); rfl; rfl; exact HVV.out.one; exact hrow; exact size140; exact hsz8; intro w21 K1 hr11)
        | ((with_reducible apply W_stV (b := fb) (o := q + 3) (v := rp)); rfl; rfl; exact HR3.out.one; exact hr11; exact size89; (simp; omega); intro w22 K2 hr12))
      go_end0
      have KK := K1.trans K2
      have hxl := HXL.out
      have hnl := HN.out
      have HNS : Hid (∀ (j : Nat) (v : Value) (N : Nat), (xs.take (n - 1))[j]? = some v → ns[j]? = some N → NumS S w22 v N) := fun j v N e1 e2 => by
        have hj := (List.getElem?_eq_some_iff.1 e2).1
        rw [List.getElem?_take_of_lt (by omega)] at e1
        exact (HNX.out j v N (by omega) e1 (by rw [List.getElem?_append_left (by omega)]; exact e2)).keptC KK hrow HNB.out
      exact ⟨_, w11, rfl, HPO.out, HKX.out, KK, ⟨_, rp, gv, (Value.slice p (n - 1) (n - 1)), xs.take (n - 1), hr12, by simp only [Array.size_setIfInBounds]; exact HSZ0.out, fun k k3 k4 k8 k9 => by rw [Array.getElem?_setIfInBounds_ne (by omega), Array.getElem?_setIfInBounds_ne (by omega)]; exact HFS.out k k3 k4 k8 k9, Array.getElem?_setIfInBounds_self_of_lt (by simp; omega), HR3.out.keptC KK hrow HNB.out, by rw [Array.getElem?_setIfInBounds_ne (by omega), Array.getElem?_setIfInBounds_ne (by omega)]; exact h4, HGV2.out.keptC KK hrow HNB.out, by rw [Array.getElem?_setIfInBounds_ne (by omega), Array.getElem?_setIfInBounds_self_of_lt hsz8], HVV.out.keptC KK hrow (by decide), ⟨by simp; omega, fun j v N e1 e2 => (HNS.out j v N e1 e2).num⟩, by rw [Array.getElem?_setIfInBounds_ne (by omega), Array.getElem?_setIfInBounds_ne (by omega)]; exact hmv, fun j v N _ e1 e2 => HNS.out j v N e1 e2⟩⟩
end Go.Proofs.YgcsalGreat

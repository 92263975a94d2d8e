/-
  The walk of yp.Intrinsic at a call with data.
-/
import Derived.Test.YgcsalGreatMv29
set_option linter.unusedSimpArgs false
set_option linter.unusedVariables false
namespace Go.Proofs.YgcsalGreat
open Go.RowKit Go.Own

set_option maxHeartbeats 4000000 in
set_option maxRecDepth 100000 in
theorem intrinsic_nil (p : Option Addr) (cd : Nat) (w : World) : Calls Salg.prog 89 #[.agg (txP (Value.slice p 0 cd)).toArray] w fun e w' => ∃ r I, e = .returned r ∧ NumV w' r I ∧ 21000 ≤ I ∧ I ≤ 21000 + 16 * 0 ∧ Kept [] w w' := by
  have M := Mem.start w []
  go_enter Salg.func89, Salg.ntmps89
  go_wp2_with ((with_reducible apply L_box M); rfl; clear M; intro tb w1 htb M; simp only [Act.put, List.setIfInBounds_toArray, List.set_cons_zero, List.set_cons_succ])
  refine (num_int _ 21000 rfl (by decide) _).mono ?_
  rintro e w2 ⟨r0, rfl, xH0, K⟩
  have H0 := hid xH0
  replace M := M.call K
  clear K xH0
  go_wp2_with ((with_reducible apply W_loadCell); rfl; exact M.r0; exact (show (txP (Value.slice p 0 cd)).toArray[107]? = some ((Value.slice p 0 cd)) by kernel_rfl); exact Salg.underlying40; rfl; simp only [Act.put, List.setIfInBounds_toArray, List.set_cons_zero, List.set_cons_succ])
  go_loopw [4, 13] (fun zv iv wx => zv = .int .u64 0 ∧ iv = .int .i64 0 ∧ Mem w [] [(tb, .cells (txP (Value.slice p 0 cd)).toArray 49 (0, 0))] wx ∧ NumV wx r0 21000) (fun _ _ _ => 0)
  case atStart => exact ⟨rfl, rfl, M, H0.out⟩
  case round =>
    clear M H0
    obtain ⟨rfl, rfl, M, x0⟩ := hrel
    have H0 := hid x0
    clear x0
    go_wp2_with fail
    refine (num_int _ 4 rfl (by decide) _).mono ?_
    rintro e w3 ⟨r1, rfl, xH1, K⟩
    have H1 := hid xH1
    replace H0 := hid (H0.out.kept K)
    replace M := M.call K
    clear K xH1
    go_wp2_with fail
    refine (num_int _ 0 rfl (by decide) _).mono ?_
    rintro e w4 ⟨r2, rfl, xH2, K⟩
    have H2 := hid xH2
    replace H0 := hid (H0.out.kept K)
    replace H1 := hid (H1.out.kept K)
    replace M := M.call K
    clear K xH2
    go_wp2_with fail
    refine (mul_num r1 r2 4 0 _ H1.out H2.out (by decide) (by omega)).mono ?_
    rintro e w5 ⟨r3, rfl, xH3, K⟩
    have H3 := hid xH3
    replace H0 := hid (H0.out.kept K)
    replace M := M.call K
    clear K xH3
    go_wp2_with fail
    refine (add_num r0 r3 21000 (4 * 0) _ H0.out H3.out (by decide) (by omega)).mono ?_
    rintro e w6 ⟨r4, rfl, xH4, K⟩
    have H4 := hid xH4
    replace M := M.call K
    clear K xH4
    go_wp2_with fail
    clear H0 H1 H2 H3
    refine S_region (by kernel_rfl) ?_
    replace H4 := hid (H4.out.kept (Kept.refl [] _).drew)
    refine E_stage 0 12 [0, 2, 3, 4, 5, 6, 7, 1, 8, 9, 10, 11] (by kernel_rfl) M.drew ?_
    clear M
    simp only [List.filterMap_cons, List.filterMap_nil, List.getElem?_cons_zero, List.getElem?_cons_succ]
    ((with_reducible apply E_run); rfl; rfl; (intro w M; go_simp; (try go_ints); (try simp only [↓IntWalk.iteOmega]); (try with_reducible rfl)); simp only [Act.put, List.setIfInBounds_toArray, List.set_cons_zero, List.set_cons_succ])
    ((with_reducible apply E_run); rfl; rfl; (intro w M; go_simp; (try go_ints); (try simp only [↓IntWalk.iteOmega]); (try with_reducible rfl)); simp only [Act.put, List.setIfInBounds_toArray, List.set_cons_zero, List.set_cons_succ])
    ((with_reducible apply E_run); rfl; rfl; (intro w M; exact run_loadCell (M.r0) rfl (show (txP (Value.slice p 0 cd)).toArray[107]? = some ((Value.slice p 0 cd)) by kernel_rfl) Salg.underlying40 rfl); simp only [Act.put, List.setIfInBounds_toArray, List.set_cons_zero, List.set_cons_succ])
    ((with_reducible apply E_run); rfl; rfl; (intro w M; go_simp; (try go_ints); (try simp only [↓IntWalk.iteOmega]); (try with_reducible rfl)); simp only [Act.put, List.setIfInBounds_toArray, List.set_cons_zero, List.set_cons_succ])
    ((with_reducible apply E_run); rfl; rfl; (intro w M; go_simp; (try go_ints); (try simp only [↓IntWalk.iteOmega]); (try with_reducible rfl)); simp only [Act.put, List.setIfInBounds_toArray, List.set_cons_zero, List.set_cons_succ])
    ((with_reducible apply E_run); rfl; rfl; (intro w M; go_simp; (try go_ints); (try simp only [↓IntWalk.iteOmega]); (try with_reducible rfl)); simp only [Act.put, List.setIfInBounds_toArray, List.set_cons_zero, List.set_cons_succ])
    ((with_reducible apply E_run); rfl; rfl; (intro w M; go_simp; (try go_ints); (try simp only [↓IntWalk.iteOmega]); (try with_reducible rfl)); simp only [Act.put, List.setIfInBounds_toArray, List.set_cons_zero, List.set_cons_succ])
    refine E_call rfl Salg.func87 (by kernel_rfl) (by kernel_rfl) (args := [.int .u64 16]) rfl ?_
    intro w1 K M
    replace H4 := hid (H4.out.kept K)
    clear K
    refine (num_int _ 16 rfl (by decide) _).mono ?_
    rintro e w7 ⟨r5, rfl, xH5, K⟩
    have H5 := hid xH5
    clear xH5
    replace H4 := hid (H4.out.kept K)
    replace M := M.call K
    refine ⟨_, rfl, trivial, M, ?_⟩
    clear K
    simp only [Act.put, List.setIfInBounds_toArray, List.set_cons_zero, List.set_cons_succ]
    refine E_call rfl Salg.func87 (by kernel_rfl) (by kernel_rfl) (args := [.int .u64 0]) rfl ?_
    intro w1 K M
    replace H4 := hid (H4.out.kept K)
    replace H5 := hid (H5.out.kept K)
    clear K
    refine (num_int _ (0 - 0) (by omega) (by omega) _).mono ?_
    rintro e w8 ⟨r6, rfl, xH6, K⟩
    have H6 := hid xH6
    clear xH6
    replace H4 := hid (H4.out.kept K)
    replace H5 := hid (H5.out.kept K)
    replace M := M.call K
    refine ⟨_, rfl, trivial, M, ?_⟩
    clear K
    simp only [Act.put, List.setIfInBounds_toArray, List.set_cons_zero, List.set_cons_succ]
    refine E_call rfl Salg.func70 (by kernel_rfl) (by kernel_rfl) (args := [r5, r6]) rfl ?_
    intro w1 K M
    replace H4 := hid (H4.out.kept K)
    replace H5 := hid (H5.out.kept K)
    replace H6 := hid (H6.out.kept K)
    clear K
    refine (mul_num r5 r6 16 (0 - 0) _ H5.out H6.out (by decide) (by omega)).mono ?_
    rintro e w9 ⟨r7, rfl, xH7, K⟩
    have H7 := hid xH7
    clear xH7
    replace H4 := hid (H4.out.kept K)
    replace H5 := hid (H5.out.kept K)
    replace H6 := hid (H6.out.kept K)
    replace M := M.call K
    refine ⟨_, rfl, trivial, M, ?_⟩
    clear K
    simp only [Act.put, List.setIfInBounds_toArray, List.set_cons_zero, List.set_cons_succ]
    refine E_call rfl Salg.func68 (by kernel_rfl) (by kernel_rfl) (args := [r4, r7]) rfl ?_
    intro w1 K M
    replace H4 := hid (H4.out.kept K)
    replace H7 := hid (H7.out.kept K)
    clear K
    refine (add_num r4 r7 (21000 + 4 * 0) (16 * (0 - 0)) _ H4.out H7.out (by omega) (by omega)).mono ?_
    rintro e w10 ⟨r8, rfl, xH8, K⟩
    have H8 := hid xH8
    clear xH8
    replace H4 := hid (H4.out.kept K)
    replace H7 := hid (H7.out.kept K)
    replace M := M.call K
    refine ⟨_, rfl, trivial, M, ?_⟩
    clear K
    simp only [Act.put, List.setIfInBounds_toArray, List.set_cons_zero, List.set_cons_succ]
    ((with_reducible apply E_run); rfl; rfl; (intro w M; go_simp; (try go_ints); (try simp only [↓IntWalk.iteOmega]); (try with_reducible rfl)); simp only [Act.put, List.setIfInBounds_toArray, List.set_cons_zero, List.set_cons_succ])
    refine E_nil ?_
    intro w11 K M
    replace H8 := hid (H8.out.kept K)
    clear K
    refine S_done ?_
    go_wp2_with ((with_reducible apply W_loadCell); rfl; exact M.r0; exact (show (txP (Value.slice p 0 cd)).toArray[173]? = some (nilS) by kernel_rfl); exact Salg.underlying47; rfl; simp only [Act.put, List.setIfInBounds_toArray, List.set_cons_zero, List.set_cons_succ])
    go_loopw [3, 42] (fun rv iv wx => rv = r8 ∧ iv = .int .i64 0 ∧ Mem w [] [(tb, .cells (txP (Value.slice p 0 cd)).toArray 49 (0, 0))] wx ∧ NumV wx r8 (21000 + 4 * 0 + 16 * (0 - 0))) (fun _ _ _ => 0)
    case atStart => exact ⟨rfl, rfl, M, H8.out⟩
    case round =>
      clear M H8
      obtain ⟨rfl, rfl, M, x8⟩ := hrel
      have H8 := hid x8
      clear x8
      go_wp2_with ((with_reducible apply W_loadCell); rfl; exact M.r0; exact (show (txP (Value.slice p 0 cd)).toArray[40]? = some (.bool false) by kernel_rfl); exact Salg.underlying4; rfl; simp only [Act.put, List.setIfInBounds_toArray, List.set_cons_zero, List.set_cons_succ])
      go_ret
      exact ⟨_, _, rfl, H8.out, by omega, by omega, M.kept⟩

set_option maxHeartbeats 4000000 in
set_option maxRecDepth 100000 in
theorem intrinsic_row (b t n cd : Nat) (ds cs : List Nat) (w : World) (hr : w.heap[b]? = some (R8 t cs)) (hpre : ds <+: cs) (hn : ds.length = n) (hs : Small ds) (hnl : n ≤ 1000) : Calls Salg.prog 89 #[.agg (txP (Value.slice (some ⟨b, 0, none⟩) n cd)).toArray] w fun e w' => ∃ r I, e = .returned r ∧ NumV w' r I ∧ 21000 ≤ I ∧ I ≤ 21000 + 16 * n ∧ Kept [] w w' := by
  have M := Mem.start w []
  have HPRE := hid hpre
  have HN := hid hn
  have HS := hid hs
  have hbl := lt_of_row hr
  clear hpre hn hs
  go_enter Salg.func89, Salg.ntmps89
  go_wp2_with ((with_reducible apply L_box M); rfl; clear M; intro tb w1 htb M; simp only [Act.put, List.setIfInBounds_toArray, List.set_cons_zero, List.set_cons_succ])
  refine (num_int _ 21000 rfl (by decide) _).mono ?_
  rintro e w2 ⟨r0, rfl, xH0, K⟩
  have H0 := hid xH0
  replace M := M.call K
  clear K xH0
  go_wp2_with ((with_reducible apply W_loadCell); rfl; exact M.r0; exact (show (txP (Value.slice (some ⟨b, 0, none⟩) n cd)).toArray[107]? = some ((Value.slice (some ⟨b, 0, none⟩) n cd)) by kernel_rfl); exact Salg.underlying40; rfl; simp only [Act.put, List.setIfInBounds_toArray, List.set_cons_zero, List.set_cons_succ])
  go_loopw [4, 13] (fun zv iv wx => ∃ i z : Nat, i ≤ n ∧ z ≤ i ∧ zv = .int .u64 z ∧ iv = .int .i64 i ∧ Mem w [] [(tb, .cells (txP (Value.slice (some ⟨b, 0, none⟩) n cd)).toArray 49 (0, 0))] wx ∧ NumV wx r0 21000) (fun _ iv _ => (n - intOf iv).toNat)
  case atStart => exact ⟨0, 0, by omega, by omega, rfl, rfl, M, H0.out⟩
  case round =>
    clear M H0
    obtain ⟨i, z, hi, hz, rfl, rfl, M, x0⟩ := hrel
    have H0 := hid x0
    clear x0
    rcases Nat.lt_or_ge i n with hlt | hge
    · have hil : i < ds.length := by rw [HN.out]; exact hlt
      have hg := pre_get HPRE.out hil
      have hxs := HS.out ds[i] (List.getElem_mem _)
      obtain ⟨x, hx⟩ : ∃ x, x = ds[i] := ⟨_, rfl⟩
      rw [← hx] at hg hxs
      clear hx
      by_cases h0 : x = 0
      · subst h0
        go_wp2_with ((with_reducible apply W_loadCell); rfl; exact M.kept.row hr (by simp); exact get_map hg; exact Salg.underlying5; rfl; simp only [Act.put, List.setIfInBounds_toArray, List.set_cons_zero, List.set_cons_succ])
        go_roundw
        case rel => exact ⟨i + 1, z + 1, by omega, by omega, by go_num, by go_num, M, H0.out⟩
        case measure => simp only [intOf]; omega
      · have hne : ((x : Int) == 0) = false := by rw [beq_eq_false_iff_ne]; omega
        go_wp2_with ((with_reducible apply W_loadCell); rfl; exact M.kept.row hr (by simp); exact get_map hg; exact Salg.underlying5; rfl; simp only [Act.put, List.setIfInBounds_toArray, List.set_cons_zero, List.set_cons_succ])
        go_roundw
        case rel => exact ⟨i + 1, z, by omega, by omega, by go_num, by go_num, M, H0.out⟩
        case measure => simp only [intOf]; omega
    · have hin : i = n := by omega
      subst hin
      have hzn : z ≤ i := hz
      have hz2 : z < 18446744073709551616 := by omega
      go_wp2_with fail
      refine (num_int _ 4 rfl (by decide) _).mono ?_
      rintro e w3 ⟨r1, rfl, xH1, K⟩
      have H1 := hid xH1
      replace H0 := hid (H0.out.kept K)
      replace M := M.call K
      clear K xH1
      go_wp2_with fail
      refine (num_int _ z rfl hz2 _).mono ?_
      rintro e w4 ⟨r2, rfl, xH2, K⟩
      have H2 := hid xH2
      replace H0 := hid (H0.out.kept K)
      replace H1 := hid (H1.out.kept K)
      replace M := M.call K
      clear K xH2
      go_wp2_with fail
      refine (mul_num r1 r2 4 z _ H1.out H2.out (by decide) (by omega)).mono ?_
      rintro e w5 ⟨r3, rfl, xH3, K⟩
      have H3 := hid xH3
      replace H0 := hid (H0.out.kept K)
      replace M := M.call K
      clear K xH3
      go_wp2_with fail
      refine (add_num r0 r3 21000 (4 * z) _ H0.out H3.out (by decide) (by omega)).mono ?_
      rintro e w6 ⟨r4, rfl, xH4, K⟩
      have H4 := hid xH4
      replace M := M.call K
      clear K xH4
      go_wp2_with fail
      clear H0 H1 H2 H3
      refine S_region (by kernel_rfl) ?_
      replace H4 := hid (H4.out.kept (Kept.refl [] _).drew)
      refine E_stage 0 12 [0, 2, 3, 4, 5, 6, 7, 1, 8, 9, 10, 11] (by kernel_rfl) M.drew ?_
      clear M
      simp only [List.filterMap_cons, List.filterMap_nil, List.getElem?_cons_zero, List.getElem?_cons_succ]
      ((with_reducible apply E_run); rfl; rfl; (intro w M; go_simp; (try go_ints); (try simp only [↓IntWalk.iteOmega]); (try with_reducible rfl)); simp only [Act.put, List.setIfInBounds_toArray, List.set_cons_zero, List.set_cons_succ])
      ((with_reducible apply E_run); rfl; rfl; (intro w M; go_simp; (try go_ints); (try simp only [↓IntWalk.iteOmega]); (try with_reducible rfl)); simp only [Act.put, List.setIfInBounds_toArray, List.set_cons_zero, List.set_cons_succ])
      ((with_reducible apply E_run); rfl; rfl; (intro w M; exact run_loadCell (M.r0) rfl (show (txP (Value.slice (some ⟨b, 0, none⟩) i cd)).toArray[107]? = some ((Value.slice (some ⟨b, 0, none⟩) i cd)) by kernel_rfl) Salg.underlying40 rfl); simp only [Act.put, List.setIfInBounds_toArray, List.set_cons_zero, List.set_cons_succ])
      ((with_reducible apply E_run); rfl; rfl; (intro w M; go_simp; (try go_ints); (try simp only [↓IntWalk.iteOmega]); (try with_reducible rfl)); simp only [Act.put, List.setIfInBounds_toArray, List.set_cons_zero, List.set_cons_succ])
      ((with_reducible apply E_run); rfl; rfl; (intro w M; go_simp; (try go_ints); (try simp only [↓IntWalk.iteOmega]); (try with_reducible rfl)); simp only [Act.put, List.setIfInBounds_toArray, List.set_cons_zero, List.set_cons_succ])
      ((with_reducible apply E_run); rfl; rfl; (intro w M; go_simp; (try go_ints); (try simp only [↓IntWalk.iteOmega]); (try with_reducible rfl)); simp only [Act.put, List.setIfInBounds_toArray, List.set_cons_zero, List.set_cons_succ])
      ((with_reducible apply E_run); rfl; rfl; (intro w M; go_simp; (try go_ints); (try simp only [↓IntWalk.iteOmega]); (try with_reducible rfl)); simp only [Act.put, List.setIfInBounds_toArray, List.set_cons_zero, List.set_cons_succ])
      refine E_call rfl Salg.func87 (by kernel_rfl) (by kernel_rfl) (args := [.int .u64 16]) rfl ?_
      intro w1 K M
      replace H4 := hid (H4.out.kept K)
      clear K
      refine (num_int _ 16 rfl (by decide) _).mono ?_
      rintro e w7 ⟨r5, rfl, xH5, K⟩
      have H5 := hid xH5
      clear xH5
      replace H4 := hid (H4.out.kept K)
      replace M := M.call K
      refine ⟨_, rfl, trivial, M, ?_⟩
      clear K
      simp only [Act.put, List.setIfInBounds_toArray, List.set_cons_zero, List.set_cons_succ]
      refine E_call rfl Salg.func87 (by kernel_rfl) (by kernel_rfl) (args := [.int .u64 ((i : Int) - (z : Int))]) rfl ?_
      intro w1 K M
      replace H4 := hid (H4.out.kept K)
      replace H5 := hid (H5.out.kept K)
      clear K
      refine (num_int _ (i - z) (by omega) (by omega) _).mono ?_
      rintro e w8 ⟨r6, rfl, xH6, K⟩
      have H6 := hid xH6
      clear xH6
      replace H4 := hid (H4.out.kept K)
      replace H5 := hid (H5.out.kept K)
      replace M := M.call K
      refine ⟨_, rfl, trivial, M, ?_⟩
      clear K
      simp only [Act.put, List.setIfInBounds_toArray, List.set_cons_zero, List.set_cons_succ]
      refine E_call rfl Salg.func70 (by kernel_rfl) (by kernel_rfl) (args := [r5, r6]) rfl ?_
      intro w1 K M
      replace H4 := hid (H4.out.kept K)
      replace H5 := hid (H5.out.kept K)
      replace H6 := hid (H6.out.kept K)
      clear K
      refine (mul_num r5 r6 16 (i - z) _ H5.out H6.out (by decide) (by omega)).mono ?_
      rintro e w9 ⟨r7, rfl, xH7, K⟩
      have H7 := hid xH7
      clear xH7
      replace H4 := hid (H4.out.kept K)
      replace H5 := hid (H5.out.kept K)
      replace H6 := hid (H6.out.kept K)
      replace M := M.call K
      refine ⟨_, rfl, trivial, M, ?_⟩
      clear K
      simp only [Act.put, List.setIfInBounds_toArray, List.set_cons_zero, List.set_cons_succ]
      refine E_call rfl Salg.func68 (by kernel_rfl) (by kernel_rfl) (args := [r4, r7]) rfl ?_
      intro w1 K M
      replace H4 := hid (H4.out.kept K)
      replace H7 := hid (H7.out.kept K)
      clear K
      refine (add_num r4 r7 (21000 + 4 * z) (16 * (i - z)) _ H4.out H7.out (by omega) (by omega)).mono ?_
      rintro e w10 ⟨r8, rfl, xH8, K⟩
      have H8 := hid xH8
      clear xH8
      replace H4 := hid (H4.out.kept K)
      replace H7 := hid (H7.out.kept K)
      replace M := M.call K
      refine ⟨_, rfl, trivial, M, ?_⟩
      clear K
      simp only [Act.put, List.setIfInBounds_toArray, List.set_cons_zero, List.set_cons_succ]
      ((with_reducible apply E_run); rfl; rfl; (intro w M; go_simp; (try go_ints); (try simp only [↓IntWalk.iteOmega]); (try with_reducible rfl)); simp only [Act.put, List.setIfInBounds_toArray, List.set_cons_zero, List.set_cons_succ])
      refine E_nil ?_
      intro w11 K M
      replace H8 := hid (H8.out.kept K)
      clear K
      refine S_done ?_
      go_wp2_with ((with_reducible apply W_loadCell); rfl; exact M.r0; exact (show (txP (Value.slice (some ⟨b, 0, none⟩) i cd)).toArray[173]? = some (nilS) by kernel_rfl); exact Salg.underlying47; rfl; simp only [Act.put, List.setIfInBounds_toArray, List.set_cons_zero, List.set_cons_succ])
      go_loopw [3, 42] (fun rv iv wx => rv = r8 ∧ iv = .int .i64 0 ∧ Mem w [] [(tb, .cells (txP (Value.slice (some ⟨b, 0, none⟩) i cd)).toArray 49 (0, 0))] wx ∧ NumV wx r8 (21000 + 4 * z + 16 * (i - z))) (fun _ _ _ => 0)
      case atStart => exact ⟨rfl, rfl, M, H8.out⟩
      case round =>
        clear M H8
        obtain ⟨rfl, rfl, M, x8⟩ := hrel
        have H8 := hid x8
        clear x8
        go_wp2_with ((with_reducible apply W_loadCell); rfl; exact M.r0; exact (show (txP (Value.slice (some ⟨b, 0, none⟩) i cd)).toArray[40]? = some (.bool false) by kernel_rfl); exact Salg.underlying4; rfl; simp only [Act.put, List.setIfInBounds_toArray, List.set_cons_zero, List.set_cons_succ])
        go_ret
        exact ⟨_, _, rfl, H8.out, by omega, by omega, M.kept⟩
theorem intrinsic_data (dv : Value) (ds : List Nat) (w : World) (hv : NatV w dv ds) (hl : ds.length ≤ 1000) : Calls Salg.prog 89 #[.agg (txP dv).toArray] w fun e w' => ∃ r I, e = .returned r ∧ NumV w' r I ∧ 21000 ≤ I ∧ I ≤ 21000 + 16 * ds.length ∧ Kept [] w w' := by
  obtain ⟨p, cd, rfl, _, _, hd, hs⟩ := hv
  rcases hd with rfl | ⟨b, t, cs, rfl, hr, hp⟩
  · exact intrinsic_nil p cd w
  · exact intrinsic_row b t ds.length cd ds cs w hr hp rfl hs hl
end Go.Proofs.YgcsalGreat

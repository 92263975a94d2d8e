/-
  A transaction with a value: price, intrinsic gas, verdict.
-/
import Derived.Test.YgcsalGreatCx17
import Derived.Test.YgcsalGreatMv30
set_option linter.unusedSimpArgs false
set_option linter.unusedVariables false
namespace Go.Own
open Go.Proofs.YgcsalGreat
/-- A call of account t with the value v. -/
def txV (t v : Nat) : List Value := (ad 240).map n8 ++ ((ad t).map n8 ++ ([.bool false, n64 0, n64 200000] ++ (z8 32 ++ ((padN v).map n8 ++ ([nilS, .bool false] ++ (z8 64 ++ [nilS]))))))
abbrev RTV (t v : Nat) : Obj := .cells (txV t v).toArray 49 (0, 0)
end Go.Own
namespace Go.Proofs.YgcsalGreat
open Go.RowKit Go.Own
theorem size49V (t v : Nat) : (Salg.prog.info? 49).map (·.size) = some (txV t v).toArray.size := by kernel_rfl
theorem txXV (t v : Nat) : (txV t v).toArray.extract 43 (43 + 32) = ((List.replicate 32 0).map n8).toArray := by kernel_rfl
theorem txSzV (t v : Nat) : 43 + 32 ≤ (txV t v).toArray.size := by
  have h : (txV t v).toArray.size = 174 := by kernel_rfl
  omega
theorem tx_valV (t v : Nat) : ∀ (i x : Nat), (padN v)[i]? = some x → (txV t v).toArray[75 + i]? = some (n8 x) := by
  intro i x hx
  have hi : i < 32 := (List.getElem?_eq_some_iff.1 hx).1
  have e : ((txV t v).drop 75).take 32 = (padN v).map n8 := by kernel_rfl
  have h : (((txV t v).drop 75).take 32)[i]? = ((padN v).map n8)[i]? := by rw [e]
  rw [List.getElem?_take_of_lt hi, List.getElem?_drop, List.getElem?_map, hx] at h
  rw [List.getElem?_toArray]
  exact h
set_option maxHeartbeats 2000000 in
set_option maxRecDepth 100000 in
theorem feesV (b : Nat) (t v : Nat) (w : World) (hr : w.heap[b]? = some (RTV t v)) : Calls Salg.prog 162 #[.pointer (some ⟨b, 0, none⟩)] w fun e w' => e = .returned (.tuple #[A8 (List.replicate 32 0), A8 (List.replicate 32 0)]) ∧ Kept [] w w' := by
  have M := Mem.start w []
  go_enter Salg.func162, Salg.ntmps162
  go_wp2_with (first
    | ((with_reducible apply L_allocA (d := 2) M); exact zero46; clear M; intro c1 w1 hc1 M; simp only [Act.put, List.setIfInBounds_toArray, List.set_cons_zero, List.set_cons_succ])
    | ((with_reducible apply L_allocA (d := 3) M); exact zero46; clear M; intro c2 w1 hc2 M; simp only [Act.put, List.setIfInBounds_toArray, List.set_cons_zero, List.set_cons_succ])
    | ((with_reducible apply W_loadCell (i := 108) (v := .bool false)); rfl; exact M.kept.row hr (by simp); rfl; exact Salg.underlying4; rfl; simp only [Act.put, List.setIfInBounds_toArray, List.set_cons_zero, List.set_cons_succ]))
  replace M := M.perm (List.Perm.swap _ _ _)
  refine S_region (by kernel_rfl) ?_
  refine V_one 0 8 c1 (R8 46 (List.replicate 32 0)) (R8 46 (List.replicate 32 0)) _ (by kernel_rfl) (by decide) rfl M.drew ?_
  clear M
  simp only [List.take_succ_cons, List.take_zero, List.drop_zero, List.drop_succ_cons, Nat.sub_zero, Nat.reduceSub]
  ((with_reducible apply V_run); rfl; (intro w M; go_simp; (try go_ints); (try simp only [↓IntWalk.iteOmega]); (try with_reducible rfl)); simp only [Act.put, List.setIfInBounds_toArray, List.set_cons_zero, List.set_cons_succ])
  ((with_reducible apply V_run); rfl; (intro w M; go_simp; (try go_ints); (try simp only [↓IntWalk.iteOmega]); (try with_reducible rfl)); simp only [Act.put, List.setIfInBounds_toArray, List.set_cons_zero, List.set_cons_succ])
  ((with_reducible apply V_run); rfl; (intro w M; go_simp; (try go_ints); (try simp only [↓IntWalk.iteOmega]); (try with_reducible rfl)); simp only [Act.put, List.setIfInBounds_toArray, List.set_cons_zero, List.set_cons_succ])
  ((with_reducible apply V_run); rfl; (intro w M; exact Go.Own.run_load (n := 32) (o := 43) (M.kept.row hr (by simp)) rfl Salg.underlying46 rfl size46 (txSzV t v)); rw [txXV t v]; simp only [Act.put, List.setIfInBounds_toArray, List.set_cons_zero, List.set_cons_succ])
  ((with_reducible apply V_run); rfl; (intro w M; go_simp; (try go_ints); (try simp only [↓IntWalk.iteOmega]); (try with_reducible rfl)); simp only [Act.put, List.setIfInBounds_toArray, List.set_cons_zero, List.set_cons_succ])
  ((with_reducible apply V_run); rfl; (intro w M; go_simp; (try go_ints); (try simp only [↓IntWalk.iteOmega]); (try with_reducible rfl)); simp only [Act.put, List.setIfInBounds_toArray, List.set_cons_zero, List.set_cons_succ])
  ((with_reducible apply V_run); rfl; (intro w M; go_simp; (try go_ints); (try simp only [↓IntWalk.iteOmega]); (try with_reducible rfl)); simp only [Act.put, List.setIfInBounds_toArray, List.set_cons_zero, List.set_cons_succ])
  ((with_reducible apply V_run); rfl; (intro w M; exact Go.Own.run_load (n := 32) (o := 43) (M.kept.row hr (by simp)) rfl Salg.underlying46 rfl size46 (txSzV t v)); rw [txXV t v]; simp only [Act.put, List.setIfInBounds_toArray, List.set_cons_zero, List.set_cons_succ])
  refine V_nil ?_
  refine ⟨rfl, ?_, ?_⟩
  · intro w M
    exact ⟨_, Go.Own.run_storeAll (vs := ((List.replicate 32 0).map n8).toArray) M.r0 rfl rfl size46 rfl (one8 _), Mem.put (L1 := []) M (Or.inr hc1) (R8 46 (List.replicate 32 0))⟩
  intro w4 M
  (try simp only [Act.put, List.setIfInBounds_toArray, List.set_cons_zero, List.set_cons_succ])
  refine S_seg 9 10 (by kernel_rfl) (by decide) ?_
  simp only [List.take_succ_cons, List.take_zero, List.drop_zero, List.drop_succ_cons, Nat.sub_zero, Nat.reduceSub]
  go_wp2_with ((with_reducible apply W_storeK (b := c2) (vs := ((List.replicate 32 0).map n8).toArray)); rfl; rfl; exact M.r1; exact size46; (first | rfl | simp []); exact one8 _; intro w3 K hr3; replace M := Mem.callPut (L1 := [_]) M (Or.inr (by assumption)) K hr3; clear K hr3; simp only [List.cons_append, List.nil_append] at M)
  refine S_done ?_
  go_wp2_with fail
  exact ret_cell2 Salg.results162 rfl M.r0 Salg.underlying46 rfl size46 rfl M.r1 Salg.underlying46 rfl size46 rfl ⟨rfl, M.kept⟩

set_option maxHeartbeats 2000000 in
set_option maxRecDepth 100000 in
theorem listOKV (b : Nat) (t v : Nat) (w : World) (hr : w.heap[b]? = some (RTV t v)) : Calls Salg.prog 163 #[.pointer (some ⟨b, 0, none⟩)] w fun e w' => e = .returned (.bool true) ∧ Kept [] w w' := by
  have M := Mem.start w []
  go_enter Salg.func163, Salg.ntmps163
  go_wp2_with ((with_reducible apply W_loadCell (i := 173) (v := nilS)); rfl; exact M.kept.row hr (by simp); rfl; exact Salg.underlying47; rfl; simp only [Act.put, List.setIfInBounds_toArray, List.set_cons_zero, List.set_cons_succ])
  go_loopw [3, 17] (fun _ iv wr => iv = .int .i64 0 ∧ wr = w) (fun _ _ _ => 0)
  case atStart => exact ⟨rfl, rfl⟩
  case round =>
    obtain ⟨rfl, rfl⟩ := hrel
    go_wp2_with fail
    go_ret
    exact ⟨rfl, Kept.refl _ _⟩

set_option maxHeartbeats 2000000 in
set_option maxRecDepth 100000 in
theorem priceV (c tc : Nat) (cs : Array Value) (t v : Nat) (w : World) (hr : w.heap[c]? = some (.cells cs tc (0, 0))) (hz : ∀ i, i < 32 → cs[146 + i]? = some (n8 0)) (hsz : cs.size = 179) : Calls Salg.prog 90 #[.pointer (some ⟨c, 0, none⟩), .agg (txV t v).toArray] w fun e w' => ∃ u, e = .returned u ∧ NumV w' u 0 ∧ Kept [] w w' := by
  have M := Mem.start w []
  have HBF := hid (fun w' (h : w'.heap[c]? = some (.cells cs tc (0, 0))) => baseFee_any c tc cs w' h hz hsz)
  have HFB := hid (fun b w' (h : w'.heap[b]? = some (R8 46 (List.replicate 32 0))) => fromBE_any b 46 (List.replicate 32 0) w' h (by decide) (small_replicate _))
  have HBE : Hid (be (List.replicate 32 0) = 0) := be_zeros (by intro x hx; exact (List.mem_replicate.1 hx).2)
  simp only [HBE.out, List.length_replicate] at HFB
  have hr0 := hr
  clear hz hsz HBE
  go_enter Salg.func90, Salg.ntmps90
  go_wp2_with ((with_reducible apply L_box (d := 3) M); rfl; clear M; intro c1 w1 hc1 M; simp only [Act.put, List.setIfInBounds_toArray, List.set_cons_zero, List.set_cons_succ])
  refine (feesV c1 t v _ M.r0).mono ?_
  rintro e w2 ⟨rfl, K⟩
  replace M := M.call K
  clear K
  go_wp2_with (first
    | ((with_reducible apply L_allocA (d := 5) M); exact zero46; clear M; intro c2 w1 hc2 M; simp only [Act.put, List.setIfInBounds_toArray, List.set_cons_zero, List.set_cons_succ])
    | ((with_reducible apply L_allocA (d := 6) M); exact zero46; clear M; intro c3 w1 hc3 M; simp only [Act.put, List.setIfInBounds_toArray, List.set_cons_zero, List.set_cons_succ])
    | ((with_reducible apply W_storeK (b := c2) (vs := ((List.replicate 32 0).map n8).toArray)); rfl; rfl; exact M.r1; exact size46; (first | rfl | simp []); exact one8 _; intro w3 K hr3; replace M := Mem.callPut (L1 := [_]) M (Or.inr (by assumption)) K hr3; clear K hr3; simp only [List.cons_append, List.nil_append] at M)
    | ((with_reducible apply W_storeK (b := c3) (vs := ((List.replicate 32 0).map n8).toArray)); rfl; rfl; exact M.r0; exact size46; (first | rfl | simp []); exact one8 _; intro w3 K hr3; replace M := Mem.callPut (L1 := []) M (Or.inr (by assumption)) K hr3; clear K hr3; simp only [List.cons_append, List.nil_append] at M)
    | ((with_reducible apply W_sliceArr (l := 0) (h := 32) (m := 32)); rfl; exact Salg.underlying46; exact size5; (first | exact Or.inl ⟨rfl, rfl⟩ | exact Or.inr ⟨_, _, _, rfl, rfl, by omega⟩); (first | exact Or.inl ⟨rfl, rfl⟩ | exact Or.inr ⟨_, _, _, rfl, rfl, by omega⟩); (first | exact Or.inl ⟨rfl, rfl⟩ | exact Or.inr ⟨_, _, _, rfl, rfl, by omega⟩); (first | exact Or.inl rfl | exact Or.inr rfl); omega; omega; omega; omega; (try simp only [Nat.zero_add, Nat.sub_zero]); simp only [Act.put, List.setIfInBounds_toArray, List.set_cons_zero, List.set_cons_succ]))
  refine (HFB.out c2 _ M.r1).mono ?_
  rintro e w3 ⟨A1, rfl, xHA1, K⟩
  have HA1 := hid xHA1
  replace M := M.call K
  clear K xHA1
  go_wp2_with fail
  refine (HBF.out _ (M.kept.row hr0 (by simp))).mono ?_
  rintro e w4 ⟨A2, rfl, xHA2, K⟩
  have HA2 := hid xHA2
  replace HA1 := hid (HA1.out.kept K)
  replace M := M.call K
  clear K xHA2
  go_wp2_with fail
  refine (less_any _ _ _ _ _ HA1.out HA2.out (by decide) (by decide)).mono ?_
  rintro e w5 ⟨A3, rfl, xHA3, K⟩
  have HA3 := hid xHA3
  replace M := M.call K
  clear K xHA3
  clear HA1 HA2
  go_wp2_with fail
  refine S_region (by kernel_rfl) ?_
  replace M := M.drew
  replace HA3 := hid (HA3.out.kept (Kept.refl [] _).drew)
  refine C_region [0, 2, 4, 1, 3, 5, 6, 7] (by kernel_rfl) M ?_
  simp only [List.filterMap_cons, List.filterMap_nil, List.getElem?_cons_zero, List.getElem?_cons_succ]
  ((with_reducible apply C_run); rfl; rfl; (intro w M; go_simp; (try go_ints); (try simp only [↓IntWalk.iteOmega]); (try with_reducible rfl)); simp only [Act.put, List.setIfInBounds_toArray, List.set_cons_zero, List.set_cons_succ])
  ((with_reducible apply C_run); rfl; rfl; (intro w M; exact run_sliceArr (l := 0) (h := 32) (m := 32) rfl Salg.underlying46 size5 (by (first | exact Or.inl ⟨rfl, rfl⟩ | exact Or.inr ⟨_, _, _, rfl, rfl, by omega⟩)) (by (first | exact Or.inl ⟨rfl, rfl⟩ | exact Or.inr ⟨_, _, _, rfl, rfl, by omega⟩)) (by (first | exact Or.inl ⟨rfl, rfl⟩ | exact Or.inr ⟨_, _, _, rfl, rfl, by omega⟩)) (by first | exact Or.inl rfl | exact Or.inr rfl) (by omega) (by omega) (by omega) (by omega)); (try simp only [Nat.zero_add, Nat.sub_zero]); simp only [Act.put, List.setIfInBounds_toArray, List.set_cons_zero, List.set_cons_succ])
  ((with_reducible apply C_run); rfl; rfl; (intro w M; go_simp; (try go_ints); (try simp only [↓IntWalk.iteOmega]); (try with_reducible rfl)); simp only [Act.put, List.setIfInBounds_toArray, List.set_cons_zero, List.set_cons_succ])
  refine C_call rfl Salg.func123 (by kernel_rfl) (by kernel_rfl) (args := [.pointer (some ⟨c, 0, none⟩)]) rfl ?_
  refine (HBF.out _ (M.kept.row hr0 (by simp))).mono ?_
  rintro e w6 ⟨B1, rfl, xHB1, K⟩
  have HB1 := hid xHB1
  replace HA3 := hid (HA3.out.kept K)
  replace M := M.call K
  clear K xHB1
  refine ⟨_, rfl, M, ?_⟩
  simp only [Act.put, List.setIfInBounds_toArray, List.set_cons_zero, List.set_cons_succ]
  refine C_call rfl Salg.func64 (by kernel_rfl) (by kernel_rfl) (args := [.slice (some ⟨c3, 0, none⟩) 32 32]) rfl ?_
  refine (HFB.out c3 _ M.r0).mono ?_
  rintro e w7 ⟨B2, rfl, xHB2, K⟩
  have HB2 := hid xHB2
  replace HA3 := hid (HA3.out.kept K)
  replace HB1 := hid (HB1.out.kept K)
  replace M := M.call K
  clear K xHB2
  refine ⟨_, rfl, M, ?_⟩
  simp only [Act.put, List.setIfInBounds_toArray, List.set_cons_zero, List.set_cons_succ]
  refine C_call rfl Salg.func121 (by kernel_rfl) (by kernel_rfl) (args := [B2, A3]) rfl ?_
  refine (minNat_any _ _ _ _ _ HB2.out HA3.out).mono ?_
  rintro e w8 ⟨B3, rfl, xHB3, K⟩
  have HB3 := hid xHB3
  replace HB1 := hid (HB1.out.kept K)
  replace M := M.call K
  clear K xHB3
  refine ⟨_, rfl, M, ?_⟩
  simp only [Act.put, List.setIfInBounds_toArray, List.set_cons_zero, List.set_cons_succ]
  refine C_call rfl Salg.func68 (by kernel_rfl) (by kernel_rfl) (args := [B1, B3]) rfl ?_
  refine (add_num _ _ _ _ _ HB1.out HB3.out (by decide) (by decide)).mono ?_
  rintro e w9 ⟨B4, rfl, xHB4, K⟩
  have HB4 := hid xHB4
  replace M := M.call K
  clear K xHB4
  refine ⟨_, rfl, M, ?_⟩
  simp only [Act.put, List.setIfInBounds_toArray, List.set_cons_zero, List.set_cons_succ]
  ((with_reducible apply C_run); rfl; rfl; (intro w M; go_simp; (try go_ints); (try simp only [↓IntWalk.iteOmega]); (try with_reducible rfl)); simp only [Act.put, List.setIfInBounds_toArray, List.set_cons_zero, List.set_cons_succ])
  refine C_nil ?_
  intro _
  go_wp2_with fail
  go_ret
  exact ⟨_, rfl, HB4.out, M.kept⟩
set_option maxHeartbeats 4000000 in
set_option maxRecDepth 100000 in
theorem intrinsicV (t v : Nat) (w : World) : Calls Salg.prog 89 #[.agg (txV t v).toArray] w fun e w' => ∃ r, e = .returned r ∧ NumV w' r 21000 ∧ Kept [] w w' := by
  have M := Mem.start w []
  go_enter Salg.func89, Salg.ntmps89
  go_wp2_with ((with_reducible apply L_box M); rfl; clear M; intro tb w1 htb M; simp only [Act.put, List.setIfInBounds_toArray, List.set_cons_zero, List.set_cons_succ])
  refine (num_int _ 21000 rfl (by decide) _).mono ?_
  rintro e w2 ⟨r0, rfl, xH0, K⟩
  have H0 := hid xH0
  replace M := M.call K
  clear K xH0
  go_wp2_with ((with_reducible apply W_loadCell); rfl; exact M.r0; exact (show (txV t v).toArray[107]? = some (nilS) by kernel_rfl); exact Salg.underlying40; rfl; simp only [Act.put, List.setIfInBounds_toArray, List.set_cons_zero, List.set_cons_succ])
  go_loopw [4, 13] (fun zv iv wx => zv = .int .u64 0 ∧ iv = .int .i64 0 ∧ Mem w [] [(tb, .cells (txV t v).toArray 49 (0, 0))] wx ∧ NumV wx r0 21000) (fun _ _ _ => 0)
  case atStart => exact ⟨rfl, rfl, M, H0.out⟩
  case round =>
    clear M H0
    obtain ⟨rfl, rfl, M, x0⟩ := hrel
    have H0 := hid x0
    clear x0
    go_wp2_with fail
    refine (num_int _ 4 rfl (by decide) _).mono ?_
    rintro e w3 ⟨r1, rfl, xH1, K⟩
    have H1 := hid xH1
    replace H0 := hid (H0.out.kept K)
    replace M := M.call K
    clear K xH1
    go_wp2_with fail
    refine (num_int _ 0 rfl (by decide) _).mono ?_
    rintro e w4 ⟨r2, rfl, xH2, K⟩
    have H2 := hid xH2
    replace H0 := hid (H0.out.kept K)
    replace H1 := hid (H1.out.kept K)
    replace M := M.call K
    clear K xH2
    go_wp2_with fail
    refine (mul_num r1 r2 4 0 _ H1.out H2.out (by decide) (by decide)).mono ?_
    rintro e w5 ⟨r3, rfl, xH3, K⟩
    have H3 := hid xH3
    replace H0 := hid (H0.out.kept K)
    replace M := M.call K
    clear K xH3
    go_wp2_with fail
    refine (add_num r0 r3 21000 (4 * 0) _ H0.out H3.out (by decide) (by decide)).mono ?_
    rintro e w6 ⟨r4, rfl, xH4, K⟩
    have H4 := hid xH4
    replace M := M.call K
    clear K xH4
    go_wp2_with fail
    clear H0 H1 H2 H3
    refine S_region (by kernel_rfl) ?_
    replace H4 := hid (H4.out.kept (Kept.refl [] _).drew)
    refine E_stage 0 12 [0, 2, 3, 4, 5, 6, 7, 1, 8, 9, 10, 11] (by kernel_rfl) M.drew ?_
    clear M
    simp only [List.filterMap_cons, List.filterMap_nil, List.getElem?_cons_zero, List.getElem?_cons_succ]
    ((with_reducible apply E_run); rfl; rfl; (intro w M; go_simp; (try go_ints); (try simp only [↓IntWalk.iteOmega]); (try with_reducible rfl)); simp only [Act.put, List.setIfInBounds_toArray, List.set_cons_zero, List.set_cons_succ])
    ((with_reducible apply E_run); rfl; rfl; (intro w M; go_simp; (try go_ints); (try simp only [↓IntWalk.iteOmega]); (try with_reducible rfl)); simp only [Act.put, List.setIfInBounds_toArray, List.set_cons_zero, List.set_cons_succ])
    ((with_reducible apply E_run); rfl; rfl; (intro w M; exact run_loadCell (M.r0) rfl (show (txV t v).toArray[107]? = some (nilS) by kernel_rfl) Salg.underlying40 rfl); simp only [Act.put, List.setIfInBounds_toArray, List.set_cons_zero, List.set_cons_succ])
    ((with_reducible apply E_run); rfl; rfl; (intro w M; go_simp; (try go_ints); (try simp only [↓IntWalk.iteOmega]); (try with_reducible rfl)); simp only [Act.put, List.setIfInBounds_toArray, List.set_cons_zero, List.set_cons_succ])
    ((with_reducible apply E_run); rfl; rfl; (intro w M; go_simp; (try go_ints); (try simp only [↓IntWalk.iteOmega]); (try with_reducible rfl)); simp only [Act.put, List.setIfInBounds_toArray, List.set_cons_zero, List.set_cons_succ])
    ((with_reducible apply E_run); rfl; rfl; (intro w M; go_simp; (try go_ints); (try simp only [↓IntWalk.iteOmega]); (try with_reducible rfl)); simp only [Act.put, List.setIfInBounds_toArray, List.set_cons_zero, List.set_cons_succ])
    ((with_reducible apply E_run); rfl; rfl; (intro w M; go_simp; (try go_ints); (try simp only [↓IntWalk.iteOmega]); (try with_reducible rfl)); simp only [Act.put, List.setIfInBounds_toArray, List.set_cons_zero, List.set_cons_succ])
    refine E_call rfl Salg.func87 (by kernel_rfl) (by kernel_rfl) (args := [.int .u64 16]) rfl ?_
    intro w1 K M
    replace H4 := hid (H4.out.kept K)
    clear K
    refine (num_int _ 16 rfl (by decide) _).mono ?_
    rintro e w7 ⟨r5, rfl, xH5, K⟩
    have H5 := hid xH5
    clear xH5
    replace H4 := hid (H4.out.kept K)
    replace M := M.call K
    refine ⟨_, rfl, trivial, M, ?_⟩
    clear K
    simp only [Act.put, List.setIfInBounds_toArray, List.set_cons_zero, List.set_cons_succ]
    refine E_call rfl Salg.func87 (by kernel_rfl) (by kernel_rfl) (args := [.int .u64 0]) rfl ?_
    intro w1 K M
    replace H4 := hid (H4.out.kept K)
    replace H5 := hid (H5.out.kept K)
    clear K
    refine (num_int _ 0 rfl (by decide) _).mono ?_
    rintro e w8 ⟨r6, rfl, xH6, K⟩
    have H6 := hid xH6
    clear xH6
    replace H4 := hid (H4.out.kept K)
    replace H5 := hid (H5.out.kept K)
    replace M := M.call K
    refine ⟨_, rfl, trivial, M, ?_⟩
    clear K
    simp only [Act.put, List.setIfInBounds_toArray, List.set_cons_zero, List.set_cons_succ]
    refine E_call rfl Salg.func70 (by kernel_rfl) (by kernel_rfl) (args := [r5, r6]) rfl ?_
    intro w1 K M
    replace H4 := hid (H4.out.kept K)
    replace H5 := hid (H5.out.kept K)
    replace H6 := hid (H6.out.kept K)
    clear K
    refine (mul_num r5 r6 16 0 _ H5.out H6.out (by decide) (by decide)).mono ?_
    rintro e w9 ⟨r7, rfl, xH7, K⟩
    have H7 := hid xH7
    clear xH7
    replace H4 := hid (H4.out.kept K)
    replace H5 := hid (H5.out.kept K)
    replace H6 := hid (H6.out.kept K)
    replace M := M.call K
    refine ⟨_, rfl, trivial, M, ?_⟩
    clear K
    simp only [Act.put, List.setIfInBounds_toArray, List.set_cons_zero, List.set_cons_succ]
    refine E_call rfl Salg.func68 (by kernel_rfl) (by kernel_rfl) (args := [r4, r7]) rfl ?_
    intro w1 K M
    replace H4 := hid (H4.out.kept K)
    replace H7 := hid (H7.out.kept K)
    clear K
    refine (add_num r4 r7 21000 (16 * 0) _ H4.out H7.out (by decide) (by decide)).mono ?_
    rintro e w10 ⟨r8, rfl, xH8, K⟩
    have H8 := hid xH8
    clear xH8
    replace H4 := hid (H4.out.kept K)
    replace H7 := hid (H7.out.kept K)
    replace M := M.call K
    refine ⟨_, rfl, trivial, M, ?_⟩
    clear K
    simp only [Act.put, List.setIfInBounds_toArray, List.set_cons_zero, List.set_cons_succ]
    ((with_reducible apply E_run); rfl; rfl; (intro w M; go_simp; (try go_ints); (try simp only [↓IntWalk.iteOmega]); (try with_reducible rfl)); simp only [Act.put, List.setIfInBounds_toArray, List.set_cons_zero, List.set_cons_succ])
    refine E_nil ?_
    intro w11 K M
    replace H8 := hid (H8.out.kept K)
    clear K
    refine S_done ?_
    go_wp2_with ((with_reducible apply W_loadCell); rfl; exact M.r0; exact (show (txV t v).toArray[173]? = some (nilS) by kernel_rfl); exact Salg.underlying47; rfl; simp only [Act.put, List.setIfInBounds_toArray, List.set_cons_zero, List.set_cons_succ])
    go_loopw [3, 42] (fun rv iv wx => rv = r8 ∧ iv = .int .i64 0 ∧ Mem w [] [(tb, .cells (txV t v).toArray 49 (0, 0))] wx ∧ NumV wx r8 21000) (fun _ _ _ => 0)
    case atStart => exact ⟨rfl, rfl, M, H8.out⟩
    case round =>
      clear M H8
      obtain ⟨rfl, rfl, M, x8⟩ := hrel
      have H8 := hid x8
      clear x8
      go_wp2_with ((with_reducible apply W_loadCell); rfl; exact M.r0; exact (show (txV t v).toArray[40]? = some (.bool false) by kernel_rfl); exact Salg.underlying4; rfl; simp only [Act.put, List.setIfInBounds_toArray, List.set_cons_zero, List.set_cons_succ])
      go_ret
      exact ⟨_, rfl, H8.out, M.kept⟩
set_option maxHeartbeats 4000000 in
set_option maxRecDepth 100000 in
theorem verdictV (c t v : Nat) (va tvv : Value) (D : List AD) (B : Nat) (w : World) (hc : w.heap[c]? = some (.cells (ch0 va tvv) 119 (0, 0))) (hv : AccD D w va) (hd : D.find? (fun x => x.adr == ad 240) = some ⟨ad 240, 0, B, []⟩) (hvB : v < B) (hvl : v < 256) :
    Calls Salg.prog 84 #[.pointer (some ⟨c, 0, none⟩), .agg (txV t v).toArray] w fun e w' => e = .returned (.int .u8 0) ∧ Kept [] w w' := by
  have M := Mem.start w []
  have HA := hid hv
  have HD := hid hd
  clear hv hd
  go_enter Salg.func84, Salg.ntmps84
  go_wp2_with ((with_reducible apply L_box M); rfl; clear M; intro tb w1 htb M; simp only [Act.put, List.setIfInBounds_toArray, List.set_cons_zero, List.set_cons_succ])
  refine S_region (by kernel_rfl) ?_
  refine E_float 0 7 [0, 1, 2, 3, 4, 5] 6 5 _ (by kernel_rfl) ⟨⟨_, _, _, _, _, rfl, zero128, rfl⟩⟩ (by simp) M.drew ?_
  clear M
  simp only [List.filterMap_cons, List.filterMap_nil, List.getElem?_cons_zero, List.getElem?_cons_succ]
  ((with_reducible apply E_run); rfl; rfl; (intro w M; go_simp; (try go_ints); (try simp only [↓IntWalk.iteOmega]); (try with_reducible rfl)); simp only [Act.put, List.setIfInBounds_toArray, List.set_cons_zero, List.set_cons_succ])
  ((with_reducible apply E_run); rfl; rfl; (intro w M; go_simp; (try go_ints); (try simp only [↓IntWalk.iteOmega]); (try with_reducible rfl)); simp only [Act.put, List.setIfInBounds_toArray, List.set_cons_zero, List.set_cons_succ])
  ((with_reducible apply E_run); rfl; rfl; (intro w M; go_simp; (try go_ints); (try simp only [↓IntWalk.iteOmega]); (try with_reducible rfl)); simp only [Act.put, List.setIfInBounds_toArray, List.set_cons_zero, List.set_cons_succ])
  ((with_reducible apply E_run); rfl; rfl; (intro w M; go_simp; (try go_ints); (try simp only [↓IntWalk.iteOmega]); (try with_reducible rfl)); simp only [Act.put, List.setIfInBounds_toArray, List.set_cons_zero, List.set_cons_succ])
  ((with_reducible apply E_run (v := .agg ((ad 240).map n8).toArray)); rfl; rfl; (intro w M; exact run_loadX (n := 20) M.r0 rfl Salg.underlying45 rfl size45 (Nat.le_of_ble_eq_true (by kernel_rfl)) (show (txV t v).toArray.extract 0 (0 + 20) = _ by kernel_rfl)); simp only [Act.put, List.setIfInBounds_toArray, List.set_cons_zero, List.set_cons_succ])
  refine E_call rfl Salg.func85 (by kernel_rfl) (by kernel_rfl) (args := [.pointer (some ⟨c, 0, none⟩), A8 (ad 240)]) rfl ?_
  intro w1 K M
  clear K
  refine (account_D c 119 _ va D _ (ad 240) _ (M.kept.row hc (by simp)) (ch0_0 _ _) ((AccD.still D).kept HA.out M.kept) rfl HD.out).mono ?_
  rintro e w2 ⟨nv2, bv2, cux, rfl, xn, xb, xc, K⟩
  obtain ⟨pc, cc, rfl⟩ : ∃ pc cc, cux = .slice pc 0 cc := by
    obtain ⟨pp, qq, ee, _⟩ := xc
    exact ⟨pp, qq, ee⟩
  have HN2 := hid xn
  have HB2 := hid xb
  clear xn xb xc
  replace M := M.call K
  refine ⟨_, rfl, K.mono (by simp), M, ?_⟩
  clear K
  simp only [Act.put, List.setIfInBounds_toArray, List.set_cons_zero, List.set_cons_succ]
  refine E_nil ?_
  intro w3 K M
  replace HN2 := hid (HN2.out.kept K)
  replace HB2 := hid (HB2.out.kept K)
  clear K
  intro t5 w4 K ht5 M
  replace HN2 := hid (HN2.out.kept K)
  replace HB2 := hid (HB2.out.kept K)
  clear K
  simp only [Act.put, List.setIfInBounds_toArray, List.set_cons_zero, List.set_cons_succ]
  refine S_seg 7 8 (by kernel_rfl) (by decide) ?_
  simp only [List.take_succ_cons, List.take_zero, List.drop_zero, List.drop_succ_cons, Nat.sub_zero, Nat.reduceSub]
  have HONE : Hid (∀ u ∈ (⟨ad 240, [nv2, bv2, .slice pc 0 cc, nilS]⟩ : Ac).cells.toArray.toList, u.oneCell' = true) := by
    apply oneL
    have e : ((⟨ad 240, [nv2, bv2, .slice pc 0 cc, nilS]⟩ : Ac).cells.all fun u => u.oneCell') = (nv2.oneCell' && (bv2.oneCell' && true)) := by kernel_rfl
    rw [e, HN2.out.one, HB2.out.one]
    rfl
  have HNBX : Hid (∀ t' l, Obj.cells (z8 20 ++ [nilS, nilS, nilS, nilS]).toArray 128 (0, 0) ≠ R8 t' l) := not_bytes_at (i := 23) (p := none) (n := 0) (m := 0) (by kernel_rfl)
  go_wp2_with ((with_reducible apply W_storeK (b := t5) (vs := (⟨ad 240, [nv2, bv2, .slice pc 0 cc, nilS]⟩ : Ac).cells.toArray)); rfl; rfl; exact M.r0; exact size128; rfl; exact HONE.out; intro w5 K hr3; replace HN2 := hid (HN2.out.keptC K M.r0 HNBX.out); replace HB2 := hid (HB2.out.keptC K M.r0 HNBX.out); replace M := Mem.callPut (L1 := []) M (Or.inr ht5) K hr3; clear K hr3; simp only [List.nil_append] at M)
  refine S_done ?_
  have H5 := hid M.r0
  have HTB := hid M.r1
  have HKZ := hid M.kept
  replace hc := M.kept.row hc (by simp)
  clear HA
  replace M := M.here
  go_wp2_with ((with_reducible apply W_loadCell); rfl; exact M.kept.row HTB.out (by simp); exact (show (txV t v).toArray[42]? = some (n64 200000) by kernel_rfl); exact Salg.underlying23; rfl; simp only [Act.put, List.setIfInBounds_toArray, List.set_cons_zero, List.set_cons_succ])
  refine (num_int _ 200000 rfl (by decide) _).mono ?_
  rintro e w6 ⟨g, rfl, xHG, K⟩
  have HG := hid xHG
  replace M := M.call K
  clear K xHG
  go_wp2_with fail
  refine (feesV tb t v _ (M.kept.row HTB.out (by simp))).mono ?_
  rintro e w7 ⟨rfl, K⟩
  replace HG := hid (HG.out.kept K)
  replace M := M.call K
  clear K
  replace hc := M.kept.row hc (by simp)
  replace HTB := hid (M.kept.row HTB.out (by simp))
  replace H5 := hid (M.kept.row H5.out (by simp))
  replace HN2 := hid (HN2.out.kept M.kept)
  replace HB2 := hid (HB2.out.kept M.kept)
  replace HKZ := hid (HKZ.out.trans M.kept)
  replace M := M.here
  go_wp2_with (first
    | ((with_reducible apply L_allocA (d := 7) M); exact zero46; clear M; intro t7 w8 ht7 M; simp only [Act.put, List.setIfInBounds_toArray, List.set_cons_zero, List.set_cons_succ])
    | ((with_reducible apply L_allocA (d := 8) M); exact zero46; clear M; intro t8 w9 ht8 M; simp only [Act.put, List.setIfInBounds_toArray, List.set_cons_zero, List.set_cons_succ])
    | ((with_reducible apply W_storeK (b := t7) (vs := ((List.replicate 32 0).map n8).toArray)); rfl; rfl; exact M.r1; exact size46; rfl; exact oneL rfl; intro w10 K hr3; replace M := Mem.callPut (L1 := [(t8, _)]) M (Or.inr ht7) K hr3; clear K hr3; simp only [List.cons_append, List.nil_append] at M)
    | ((with_reducible apply W_storeK (b := t8) (vs := ((List.replicate 32 0).map n8).toArray)); rfl; rfl; exact M.r0; exact size46; rfl; exact oneL rfl; intro w11 K hr3; replace M := Mem.callPut (L1 := []) M (Or.inr ht8) K hr3; clear K hr3; simp only [List.nil_append] at M; have H7 := hid M.r1; have H8 := hid M.r0)
    | ((with_reducible apply W_sliceArr (l := 0) (h := 32) (m := 32)); rfl; exact Salg.underlying46; exact size5; (first | exact Or.inl ⟨rfl, rfl⟩ | exact Or.inr ⟨_, _, _, rfl, rfl, by omega⟩); (first | exact Or.inl ⟨rfl, rfl⟩ | exact Or.inr ⟨_, _, _, rfl, rfl, by omega⟩); (first | exact Or.inl ⟨rfl, rfl⟩ | exact Or.inr ⟨_, _, _, rfl, rfl, by omega⟩); (first | exact Or.inl rfl | exact Or.inr rfl); omega; omega; omega; omega; (try simp only [Nat.zero_add, Nat.sub_zero]); simp only [Act.put, List.setIfInBounds_toArray, List.set_cons_zero, List.set_cons_succ]))
  replace hc := M.kept.row hc (by simp)
  replace HTB := hid (M.kept.row HTB.out (by simp))
  replace H5 := hid (M.kept.row H5.out (by simp))
  replace HN2 := hid (HN2.out.kept M.kept)
  replace HB2 := hid (HB2.out.kept M.kept)
  replace HG := hid (HG.out.kept M.kept)
  replace HKZ := hid (HKZ.out.trans M.kept)
  replace M := M.here
  refine (fromBE_at t7 0 46 32 _ (List.replicate 32 0) _ (M.kept.row H7.out (by simp)) (z32_news 0) (by decide) small32).mono ?_
  rintro e w12 ⟨mo, rfl, xHM, K⟩
  have HM := hid xHM
  replace HG := hid (HG.out.kept K)
  replace M := M.call K
  clear K xHM
  rw [be_zero32] at HM
  go_wp2_with fail
  refine S_region (by kernel_rfl) ?_
  replace HG := hid (HG.out.kept (Kept.refl [] _).drew)
  replace HM := hid (HM.out.kept (Kept.refl [] _).drew)
  refine E_stage 0 8 [0, 1, 3, 4, 2, 5, 6, 7] (by kernel_rfl) M.drew ?_
  clear M
  simp only [List.filterMap_cons, List.filterMap_nil, List.getElem?_cons_zero, List.getElem?_cons_succ]
  ((with_reducible apply E_run); rfl; rfl; (intro w M; go_simp; (try go_ints); (try simp only [↓IntWalk.iteOmega]); (try with_reducible rfl)); simp only [Act.put, List.setIfInBounds_toArray, List.set_cons_zero, List.set_cons_succ])
  ((with_reducible apply E_run); rfl; rfl; (intro w M; go_simp; (try go_ints); (try simp only [↓IntWalk.iteOmega]); (try with_reducible rfl)); simp only [Act.put, List.setIfInBounds_toArray, List.set_cons_zero, List.set_cons_succ])
  ((with_reducible apply E_run); rfl; rfl; (intro w M; go_simp; (try go_ints); (try simp only [↓IntWalk.iteOmega]); (try with_reducible rfl)); simp only [Act.put, List.setIfInBounds_toArray, List.set_cons_zero, List.set_cons_succ])
  ((with_reducible apply E_run); rfl; rfl; (intro w M; exact run_sliceArr (l := 0) (h := 32) (m := 32) rfl Salg.underlying46 size5 (by (first | exact Or.inl ⟨rfl, rfl⟩ | exact Or.inr ⟨_, _, _, rfl, rfl, by omega⟩)) (by (first | exact Or.inl ⟨rfl, rfl⟩ | exact Or.inr ⟨_, _, _, rfl, rfl, by omega⟩)) (by (first | exact Or.inl ⟨rfl, rfl⟩ | exact Or.inr ⟨_, _, _, rfl, rfl, by omega⟩)) (by first | exact Or.inl rfl | exact Or.inr rfl) (by omega) (by omega) (by omega) (by omega)); (try simp only [Nat.zero_add, Nat.sub_zero]); simp only [Act.put, List.setIfInBounds_toArray, List.set_cons_zero, List.set_cons_succ])
  refine E_call rfl Salg.func70 (by kernel_rfl) (by kernel_rfl) (args := [g, mo]) rfl ?_
  intro w1 K M
  replace HG := hid (HG.out.kept K)
  replace HM := hid (HM.out.kept K)
  clear K
  refine (mul_num g mo 200000 0 _ HG.out HM.out (by decide) (by decide)).mono ?_
  rintro e w13 ⟨p1, rfl, xHP1, K⟩
  have HP1 := hid xHP1
  clear xHP1
  replace HG := hid (HG.out.kept K)
  replace HM := hid (HM.out.kept K)
  replace M := M.call K
  refine ⟨_, rfl, trivial, M, ?_⟩
  clear K
  simp only [Act.put, List.setIfInBounds_toArray, List.set_cons_zero, List.set_cons_succ]
  refine E_call rfl Salg.func64 (by kernel_rfl) (by kernel_rfl) (args := [.slice (some ⟨tb, 75, none⟩) 32 32]) rfl ?_
  intro w1 K M
  replace HG := hid (HG.out.kept K)
  replace HM := hid (HM.out.kept K)
  replace HP1 := hid (HP1.out.kept K)
  clear K
  refine (fromBE_at tb 75 49 32 _ (padN v) _ (M.kept.row HTB.out (by simp)) (tx_valV t v) (Nat.le_of_ble_eq_true rfl) (padN_small hvl)).mono ?_
  rintro e w14 ⟨p2, rfl, xHP2, K⟩
  have HP2 := hid xHP2
  clear xHP2
  replace HG := hid (HG.out.kept K)
  replace HM := hid (HM.out.kept K)
  replace HP1 := hid (HP1.out.kept K)
  replace M := M.call K
  refine ⟨_, rfl, trivial, M, ?_⟩
  clear K
  simp only [Act.put, List.setIfInBounds_toArray, List.set_cons_zero, List.set_cons_succ]
  rw [padN_be] at HP2
  refine E_call rfl Salg.func68 (by kernel_rfl) (by kernel_rfl) (args := [p1, p2]) rfl ?_
  intro w1 K M
  replace HG := hid (HG.out.kept K)
  replace HM := hid (HM.out.kept K)
  replace HP1 := hid (HP1.out.kept K)
  replace HP2 := hid (HP2.out.kept K)
  clear K
  refine (add_num p1 p2 0 v _ HP1.out HP2.out (by decide) (Nat.lt_trans hvl (by decide))).mono ?_
  rintro e w15 ⟨ne, rfl, xHNE, K⟩
  have HNE := hid xHNE
  clear xHNE
  replace HG := hid (HG.out.kept K)
  replace HM := hid (HM.out.kept K)
  replace HP1 := hid (HP1.out.kept K)
  replace HP2 := hid (HP2.out.kept K)
  replace M := M.call K
  refine ⟨_, rfl, trivial, M, ?_⟩
  clear K
  simp only [Act.put, List.setIfInBounds_toArray, List.set_cons_zero, List.set_cons_succ]
  ((with_reducible apply E_run); rfl; rfl; (intro w M; go_simp; (try go_ints); (try simp only [↓IntWalk.iteOmega]); (try with_reducible rfl)); simp only [Act.put, List.setIfInBounds_toArray, List.set_cons_zero, List.set_cons_succ])
  refine E_nil ?_
  intro w16 K M
  replace HG := hid (HG.out.kept K)
  replace HM := hid (HM.out.kept K)
  replace HNE := hid (HNE.out.kept K)
  clear K
  clear HP1 HP2
  refine S_done ?_
  go_wp2_with (first
    | ((with_reducible apply W_loadCell); rfl; exact M.kept.row hc (by simp); exact (ch_11 _ _); exact Salg.underlying5; rfl; simp only [Act.put, List.setIfInBounds_toArray, List.set_cons_zero, List.set_cons_succ])
    | ((with_reducible apply W_loadCell); rfl; exact M.kept.row hc (by simp); exact (ch_13 _ _); exact Salg.underlying5; rfl; simp only [Act.put, List.setIfInBounds_toArray, List.set_cons_zero, List.set_cons_succ]))
  refine (num_int _ 1048576 rfl (by decide) _).mono ?_
  rintro e w17 ⟨q1, rfl, xHQ1, K⟩
  have HQ1 := hid xHQ1
  replace HG := hid (HG.out.kept K)
  replace HM := hid (HM.out.kept K)
  replace HNE := hid (HNE.out.kept K)
  replace M := M.call K
  clear K xHQ1
  go_wp2_with fail
  refine (cmp_lit g q1 200000 1048576 (-1) (by decide) _ HG.out HQ1.out).mono ?_
  rintro e w18 ⟨rfl, K⟩
  replace HG := hid (HG.out.kept K)
  replace HM := hid (HM.out.kept K)
  replace HNE := hid (HNE.out.kept K)
  replace M := M.call K
  clear K
  go_wp2_with ((with_reducible apply W_loadCellG); rfl; rfl; exact M.kept.row HTB.out (by simp); exact (show (txV t v).toArray[107]? = some (nilS) by kernel_rfl); exact Salg.underlying40; rfl; simp only [Act.put, List.setIfInBounds_toArray, List.set_cons_zero, List.set_cons_succ])
  refine (listOKV tb t v _ (M.kept.row HTB.out (by simp))).mono ?_
  rintro e w19 ⟨rfl, K⟩
  replace HG := hid (HG.out.kept K)
  replace HM := hid (HM.out.kept K)
  replace HNE := hid (HNE.out.kept K)
  replace M := M.call K
  clear K
  go_wp2_with fail
  refine S_region (by kernel_rfl) ?_
  replace HG := hid (HG.out.kept (Kept.refl [] _).drew)
  replace HM := hid (HM.out.kept (Kept.refl [] _).drew)
  replace HNE := hid (HNE.out.kept (Kept.refl [] _).drew)
  refine E_stage 0 8 [0, 1, 3, 4, 2, 5, 6, 7] (by kernel_rfl) M.drew ?_
  clear M
  simp only [List.filterMap_cons, List.filterMap_nil, List.getElem?_cons_zero, List.getElem?_cons_succ]
  ((with_reducible apply E_run); rfl; rfl; (intro w M; go_simp; (try go_ints); (try simp only [↓IntWalk.iteOmega]); (try with_reducible rfl)); simp only [Act.put, List.setIfInBounds_toArray, List.set_cons_zero, List.set_cons_succ])
  ((with_reducible apply E_run); rfl; rfl; (intro w M; exact run_loadCell (M.kept.row HTB.out (by simp)) rfl (show (txV t v).toArray[41]? = some (n64 0) by kernel_rfl) Salg.underlying23 rfl); simp only [Act.put, List.setIfInBounds_toArray, List.set_cons_zero, List.set_cons_succ])
  ((with_reducible apply E_run); rfl; rfl; (intro w M; go_simp; (try go_ints); (try simp only [↓IntWalk.iteOmega]); (try with_reducible rfl)); simp only [Act.put, List.setIfInBounds_toArray, List.set_cons_zero, List.set_cons_succ])
  ((with_reducible apply E_run); rfl; rfl; (intro w M; exact run_loadCell (M.kept.row H5.out (by simp)) rfl (show (⟨ad 240, [nv2, bv2, .slice pc 0 cc, nilS]⟩ : Ac).cells.toArray[20]? = some nv2 by kernel_rfl) Salg.underlying89 rfl); simp only [Act.put, List.setIfInBounds_toArray, List.set_cons_zero, List.set_cons_succ])
  refine E_call rfl Salg.func87 (by kernel_rfl) (by kernel_rfl) (args := [.int .u64 0]) rfl ?_
  intro w1 K M
  replace HG := hid (HG.out.kept K)
  replace HM := hid (HM.out.kept K)
  replace HNE := hid (HNE.out.kept K)
  clear K
  refine (num_int _ 0 rfl (by decide) _).mono ?_
  rintro e w20 ⟨q2, rfl, xHQ2, K⟩
  have HQ2 := hid xHQ2
  clear xHQ2
  replace HG := hid (HG.out.kept K)
  replace HM := hid (HM.out.kept K)
  replace HNE := hid (HNE.out.kept K)
  replace M := M.call K
  refine ⟨_, rfl, trivial, M, ?_⟩
  clear K
  simp only [Act.put, List.setIfInBounds_toArray, List.set_cons_zero, List.set_cons_succ]
  refine E_call rfl Salg.func72 (by kernel_rfl) (by kernel_rfl) (args := [q2, nv2]) rfl ?_
  intro w1 K M
  replace HG := hid (HG.out.kept K)
  replace HM := hid (HM.out.kept K)
  replace HNE := hid (HNE.out.kept K)
  replace HQ2 := hid (HQ2.out.kept K)
  clear K
  refine (cmp_lit q2 nv2 0 0 0 (by decide) _ HQ2.out (HN2.out.kept M.kept)).mono ?_
  rintro e w21 ⟨rfl, K⟩
  replace HG := hid (HG.out.kept K)
  replace HM := hid (HM.out.kept K)
  replace HNE := hid (HNE.out.kept K)
  replace HQ2 := hid (HQ2.out.kept K)
  replace M := M.call K
  refine ⟨_, rfl, trivial, M, ?_⟩
  clear K
  simp only [Act.put, List.setIfInBounds_toArray, List.set_cons_zero, List.set_cons_succ]
  ((with_reducible apply E_run); rfl; rfl; (intro w M; go_simp; (try go_ints); (try simp only [↓IntWalk.iteOmega]); (try with_reducible rfl)); simp only [Act.put, List.setIfInBounds_toArray, List.set_cons_zero, List.set_cons_succ])
  ((with_reducible apply E_run); rfl; rfl; (intro w M; go_simp; (try go_ints); (try simp only [↓IntWalk.iteOmega]); (try with_reducible rfl)); simp only [Act.put, List.setIfInBounds_toArray, List.set_cons_zero, List.set_cons_succ])
  refine E_nil ?_
  intro w22 K M
  replace HG := hid (HG.out.kept K)
  replace HM := hid (HM.out.kept K)
  replace HNE := hid (HNE.out.kept K)
  clear K
  refine S_done ?_
  go_wp2_with fail
  refine S_region (by kernel_rfl) ?_
  replace HG := hid (HG.out.kept (Kept.refl [] _).drew)
  replace HM := hid (HM.out.kept (Kept.refl [] _).drew)
  replace HNE := hid (HNE.out.kept (Kept.refl [] _).drew)
  refine E_stage 0 6 [0, 1, 2, 3, 4, 5] (by kernel_rfl) M.drew ?_
  clear M
  simp only [List.filterMap_cons, List.filterMap_nil, List.getElem?_cons_zero, List.getElem?_cons_succ]
  ((with_reducible apply E_run); rfl; rfl; (intro w M; go_simp; (try go_ints); (try simp only [↓IntWalk.iteOmega]); (try with_reducible rfl)); simp only [Act.put, List.setIfInBounds_toArray, List.set_cons_zero, List.set_cons_succ])
  ((with_reducible apply E_run); rfl; rfl; (intro w M; exact run_loadCell (M.kept.row H5.out (by simp)) rfl (show (⟨ad 240, [nv2, bv2, .slice pc 0 cc, nilS]⟩ : Ac).cells.toArray[20]? = some nv2 by kernel_rfl) Salg.underlying89 rfl); simp only [Act.put, List.setIfInBounds_toArray, List.set_cons_zero, List.set_cons_succ])
  refine E_call rfl Salg.func87 (by kernel_rfl) (by kernel_rfl) (args := [.int .u64 18446744073709551615]) rfl ?_
  intro w1 K M
  replace HG := hid (HG.out.kept K)
  replace HM := hid (HM.out.kept K)
  replace HNE := hid (HNE.out.kept K)
  clear K
  refine (num_int _ 18446744073709551615 rfl (by decide) _).mono ?_
  rintro e w23 ⟨q3, rfl, xHQ3, K⟩
  have HQ3 := hid xHQ3
  clear xHQ3
  replace HG := hid (HG.out.kept K)
  replace HM := hid (HM.out.kept K)
  replace HNE := hid (HNE.out.kept K)
  replace M := M.call K
  refine ⟨_, rfl, trivial, M, ?_⟩
  clear K
  simp only [Act.put, List.setIfInBounds_toArray, List.set_cons_zero, List.set_cons_succ]
  refine E_call rfl Salg.func72 (by kernel_rfl) (by kernel_rfl) (args := [nv2, q3]) rfl ?_
  intro w1 K M
  replace HG := hid (HG.out.kept K)
  replace HM := hid (HM.out.kept K)
  replace HNE := hid (HNE.out.kept K)
  replace HQ3 := hid (HQ3.out.kept K)
  clear K
  refine (cmp_lit nv2 q3 0 18446744073709551615 (-1) (by decide) _ (HN2.out.kept M.kept) HQ3.out).mono ?_
  rintro e w24 ⟨rfl, K⟩
  replace HG := hid (HG.out.kept K)
  replace HM := hid (HM.out.kept K)
  replace HNE := hid (HNE.out.kept K)
  replace HQ3 := hid (HQ3.out.kept K)
  replace M := M.call K
  refine ⟨_, rfl, trivial, M, ?_⟩
  clear K
  simp only [Act.put, List.setIfInBounds_toArray, List.set_cons_zero, List.set_cons_succ]
  ((with_reducible apply E_run); rfl; rfl; (intro w M; go_simp; (try go_ints); (try simp only [↓IntWalk.iteOmega]); (try with_reducible rfl)); simp only [Act.put, List.setIfInBounds_toArray, List.set_cons_zero, List.set_cons_succ])
  ((with_reducible apply E_run); rfl; rfl; (intro w M; go_simp; (try go_ints); (try simp only [↓IntWalk.iteOmega]); (try with_reducible rfl)); simp only [Act.put, List.setIfInBounds_toArray, List.set_cons_zero, List.set_cons_succ])
  refine E_nil ?_
  intro w25 K M
  replace HG := hid (HG.out.kept K)
  replace HM := hid (HM.out.kept K)
  replace HNE := hid (HNE.out.kept K)
  clear K
  refine S_done ?_
  go_wp2_with (first
    | ((with_reducible apply W_loadCell); rfl; exact M.kept.row H5.out (by simp); exact (show (⟨ad 240, [nv2, bv2, .slice pc 0 cc, nilS]⟩ : Ac).cells.toArray[22]? = some (.slice pc 0 cc) by kernel_rfl); exact Salg.underlying40; rfl; simp only [Act.put, List.setIfInBounds_toArray, List.set_cons_zero, List.set_cons_succ])
    | ((with_reducible apply W_loadCell); rfl; exact M.kept.row HTB.out (by simp); exact (show (txV t v).toArray[40]? = some (.bool false) by kernel_rfl); exact Salg.underlying4; rfl; simp only [Act.put, List.setIfInBounds_toArray, List.set_cons_zero, List.set_cons_succ])
    | ((with_reducible apply W_loadAll); rfl; exact M.kept.row HTB.out (by simp); exact Salg.underlying49; rfl; exact size49V t v; simp only [Act.put, List.setIfInBounds_toArray, List.set_cons_zero, List.set_cons_succ]))
  refine (intrinsicV t v _).mono ?_
  rintro e w26 ⟨q4, rfl, xHQ4, K⟩
  have HQ4 := hid xHQ4
  replace HG := hid (HG.out.kept K)
  replace HM := hid (HM.out.kept K)
  replace HNE := hid (HNE.out.kept K)
  replace M := M.call K
  clear K xHQ4
  go_wp2_with fail
  refine (cmp_lit g q4 200000 21000 (1) (by decide) _ HG.out HQ4.out).mono ?_
  rintro e w27 ⟨rfl, K⟩
  replace HG := hid (HG.out.kept K)
  replace HM := hid (HM.out.kept K)
  replace HNE := hid (HNE.out.kept K)
  replace M := M.call K
  clear K
  go_wp2_with ((with_reducible apply W_loadCell); rfl; exact M.kept.row hc (by simp); exact (ch_81 _ _); exact Salg.underlying23; rfl; simp only [Act.put, List.setIfInBounds_toArray, List.set_cons_zero, List.set_cons_succ])
  refine (num_int _ 1048576 rfl (by decide) _).mono ?_
  rintro e w28 ⟨q5, rfl, xHQ5, K⟩
  have HQ5 := hid xHQ5
  replace HG := hid (HG.out.kept K)
  replace HM := hid (HM.out.kept K)
  replace HNE := hid (HNE.out.kept K)
  replace M := M.call K
  clear K xHQ5
  go_wp2_with fail
  refine (cmp_lit g q5 200000 1048576 (-1) (by decide) _ HG.out HQ5.out).mono ?_
  rintro e w29 ⟨rfl, K⟩
  replace HM := hid (HM.out.kept K)
  replace HNE := hid (HNE.out.kept K)
  replace M := M.call K
  clear K
  go_wp2_with ((with_reducible apply W_loadCell); rfl; exact M.kept.row H5.out (by simp); exact (show (⟨ad 240, [nv2, bv2, .slice pc 0 cc, nilS]⟩ : Ac).cells.toArray[21]? = some bv2 by kernel_rfl); exact Salg.underlying89; rfl; simp only [Act.put, List.setIfInBounds_toArray, List.set_cons_zero, List.set_cons_succ])
  refine (cmp_lit bv2 ne B (0 + v) (1) (cmpI_gt (by omega)) _ (HB2.out.kept M.kept) HNE.out).mono ?_
  rintro e w30 ⟨rfl, K⟩
  replace HM := hid (HM.out.kept K)
  replace M := M.call K
  clear K
  go_wp2_with ((with_reducible apply W_sliceArr (l := 0) (h := 32) (m := 32)); rfl; exact Salg.underlying46; exact size5; (first | exact Or.inl ⟨rfl, rfl⟩ | exact Or.inr ⟨_, _, _, rfl, rfl, by omega⟩); (first | exact Or.inl ⟨rfl, rfl⟩ | exact Or.inr ⟨_, _, _, rfl, rfl, by omega⟩); (first | exact Or.inl ⟨rfl, rfl⟩ | exact Or.inr ⟨_, _, _, rfl, rfl, by omega⟩); (first | exact Or.inl rfl | exact Or.inr rfl); omega; omega; omega; omega; (try simp only [Nat.zero_add, Nat.sub_zero]); simp only [Act.put, List.setIfInBounds_toArray, List.set_cons_zero, List.set_cons_succ])
  refine (fromBE_at t8 0 46 32 _ (List.replicate 32 0) _ (M.kept.row H8.out (by simp)) (z32_news 0) (by decide) small32).mono ?_
  rintro e w31 ⟨q6, rfl, xHQ6, K⟩
  have HQ6 := hid xHQ6
  replace HM := hid (HM.out.kept K)
  replace M := M.call K
  clear K xHQ6
  rw [be_zero32] at HQ6
  go_wp2_with fail
  refine (cmp_lit q6 mo 0 0 (0) (by decide) _ HQ6.out HM.out).mono ?_
  rintro e w32 ⟨rfl, K⟩
  replace HM := hid (HM.out.kept K)
  replace M := M.call K
  clear K
  go_wp2_with fail
  refine (baseFee_any c 119 _ _ (M.kept.row hc (by simp)) (chL_fee rfl rfl rfl) (ch0_size _ _)).mono ?_
  rintro e w33 ⟨q7, rfl, xHQ7, K⟩
  have HQ7 := hid xHQ7
  replace HM := hid (HM.out.kept K)
  replace M := M.call K
  clear K xHQ7
  go_wp2_with fail
  refine (cmp_lit mo q7 0 0 (0) (by decide) _ HM.out HQ7.out).mono ?_
  rintro e w34 ⟨rfl, K⟩
  replace M := M.call K
  clear K
  go_wp2_with fail
  go_ret
  exact ⟨rfl, HKZ.out.trans M.kept⟩
end Go.Proofs.YgcsalGreat

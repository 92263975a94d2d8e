/-
  The walks of yp.nativeAt, (*obs.Tx).Fees, (*obs.Tx).ListOK, (*yp.State).baseFee, (*yp.State).price.
-/
import Derived.Test.YgcsalGreatMv8
import Derived.Test.YgcsalGreatMv4
import Derived.Test.YgcsalGreatOne
import Derived.Test.YgcsalGreatCalls
import Derived.Test.YgcsalGreatLate
set_option linter.unusedSimpArgs false
set_option linter.unusedVariables false
namespace Go.Own
/-- toA1() with data dv. -/
def txP (dv : Value) : List Value := (ad 240).map n8 ++ (ad 1).map n8 ++ [.bool false, n64 0, n64 200000] ++ z8 64 ++ [dv, .bool false] ++ z8 64 ++ [nilS]
abbrev RTX (dv : Value) : Obj := .cells (txP dv).toArray 49 (0, 0)
end Go.Own
namespace Go.Proofs.YgcsalGreat
open Go.RowKit Go.Own
theorem size46 : (Salg.prog.info? 46).map (·.size) = some 32 := by kernel_rfl
theorem zero46 : ((Salg.prog.info? 46).bind (·.zero)) = some (A8 (List.replicate 32 0)) := by kernel_rfl
theorem txX (dv : Value) : (txP dv).toArray.extract 43 (43 + 32) = ((List.replicate 32 0).map n8).toArray := by kernel_rfl
theorem txSz (dv : Value) : 43 + 32 ≤ (txP dv).toArray.size := by
  have h : (txP dv).toArray.size = 174 := by kernel_rfl
  omega
theorem guard46 : Salg.prog.eqGuardType Salg.prog.depth 46 = false := by kernel_rfl

set_option maxHeartbeats 2000000 in
set_option maxRecDepth 100000 in
theorem nativeAt_one (w : World) : Calls Salg.prog 95 #[A8 (ad 1)] w fun e w' => e = .returned (.int .u8 0) ∧ Kept [] w w' := by
  have M := Mem.start w []
  go_enter Salg.func95, Salg.ntmps95
  go_wp2_with (first
    | ((with_reducible apply L_box (d := 1) M); rfl; clear M; intro c1 w1 hc1 M; simp only [Act.put, List.setIfInBounds_toArray, List.set_cons_zero, List.set_cons_succ])
    | ((with_reducible apply W_loadAll); rfl; (first | with_reducible exact M.r0 | with_reducible exact M.r1 | with_reducible exact M.r2 | with_reducible exact M.r3 | with_reducible exact M.r4 | with_reducible exact M.r5 | with_reducible exact M.r6 | assumption | exact M.kept.row (by assumption) (by simp)); exact Salg.underlying45; rfl; (first | with_reducible exact size45 | (rw [size45]; simp [ad])); simp only [Act.put, List.setIfInBounds_toArray, List.set_cons_zero, List.set_cons_succ])
    | ((with_reducible apply W_loadAllG); rfl; rfl; (first | with_reducible exact M.r0 | with_reducible exact M.r1 | with_reducible exact M.r2 | with_reducible exact M.r3 | with_reducible exact M.r4 | with_reducible exact M.r5 | with_reducible exact M.r6 | assumption | exact M.kept.row (by assumption) (by simp)); exact Salg.underlying45; rfl; (first | with_reducible exact size45 | (rw [size45]; simp [ad])); simp only [Act.put, List.setIfInBounds_toArray, List.set_cons_zero, List.set_cons_succ])
    | ((with_reducible apply W_eql8 (l := ad 1) (l' := ad 4)); rfl; rfl; exact Salg.underlying45; exact Salg.underlying5; exact size5; exact guard45; rfl; rfl; rw [decide_eq_false (by decide)]; simp only [Act.put, List.setIfInBounds_toArray, List.set_cons_zero, List.set_cons_succ])
    | ((with_reducible apply L_runG); rfl; exact run_eql8 (l := ad 1) (l' := ad 5) rfl rfl Salg.underlying45 Salg.underlying5 size5 guard45 rfl rfl; rw [decide_eq_false (by decide)]; simp only [Act.put, List.setIfInBounds_toArray, List.set_cons_zero, List.set_cons_succ]))
  go_ret
  exact ⟨rfl, M.kept⟩

set_option maxHeartbeats 2000000 in
set_option maxRecDepth 100000 in
theorem fees_any (b : Nat) (dv : Value) (w : World) (hr : w.heap[b]? = some (RTX dv)) : Calls Salg.prog 162 #[.pointer (some ⟨b, 0, none⟩)] w fun e w' => e = .returned (.tuple #[A8 (List.replicate 32 0), A8 (List.replicate 32 0)]) ∧ Kept [] w w' := by
  have M := Mem.start w []
  go_enter Salg.func162, Salg.ntmps162
  go_wp2_with (first
    | ((with_reducible apply L_allocA (d := 2) M); exact zero46; clear M; intro c1 w1 hc1 M; simp only [Act.put, List.setIfInBounds_toArray, List.set_cons_zero, List.set_cons_succ])
    | ((with_reducible apply L_allocA (d := 3) M); exact zero46; clear M; intro c2 w1 hc2 M; simp only [Act.put, List.setIfInBounds_toArray, List.set_cons_zero, List.set_cons_succ])
    | ((with_reducible apply W_loadCell (i := 108) (v := .bool false)); rfl; exact M.kept.row hr (by simp); rfl; exact Salg.underlying4; rfl; simp only [Act.put, List.setIfInBounds_toArray, List.set_cons_zero, List.set_cons_succ]))
  replace M := M.perm (List.Perm.swap _ _ _)
  refine S_region (by kernel_rfl) ?_
  refine V_one 0 8 c1 (R8 46 (List.replicate 32 0)) (R8 46 (List.replicate 32 0)) _ (by kernel_rfl) (by decide) rfl M.drew ?_
  clear M
  simp only [List.take_succ_cons, List.take_zero, List.drop_zero, List.drop_succ_cons, Nat.sub_zero, Nat.reduceSub]
  ((with_reducible apply V_run); rfl; (intro w M; go_simp; (try go_ints); (try simp only [↓IntWalk.iteOmega]); (try with_reducible rfl)); simp only [Act.put, List.setIfInBounds_toArray, List.set_cons_zero, List.set_cons_succ])
  ((with_reducible apply V_run); rfl; (intro w M; go_simp; (try go_ints); (try simp only [↓IntWalk.iteOmega]); (try with_reducible rfl)); simp only [Act.put, List.setIfInBounds_toArray, List.set_cons_zero, List.set_cons_succ])
  ((with_reducible apply V_run); rfl; (intro w M; go_simp; (try go_ints); (try simp only [↓IntWalk.iteOmega]); (try with_reducible rfl)); simp only [Act.put, List.setIfInBounds_toArray, List.set_cons_zero, List.set_cons_succ])
  ((with_reducible apply V_run); rfl; (intro w M; exact Go.Own.run_load (n := 32) (o := 43) (M.kept.row hr (by simp)) rfl Salg.underlying46 rfl size46 (txSz dv)); rw [txX dv]; simp only [Act.put, List.setIfInBounds_toArray, List.set_cons_zero, List.set_cons_succ])
  ((with_reducible apply V_run); rfl; (intro w M; go_simp; (try go_ints); (try simp only [↓IntWalk.iteOmega]); (try with_reducible rfl)); simp only [Act.put, List.setIfInBounds_toArray, List.set_cons_zero, List.set_cons_succ])
  ((with_reducible apply V_run); rfl; (intro w M; go_simp; (try go_ints); (try simp only [↓IntWalk.iteOmega]); (try with_reducible rfl)); simp only [Act.put, List.setIfInBounds_toArray, List.set_cons_zero, List.set_cons_succ])
  ((with_reducible apply V_run); rfl; (intro w M; go_simp; (try go_ints); (try simp only [↓IntWalk.iteOmega]); (try with_reducible rfl)); simp only [Act.put, List.setIfInBounds_toArray, List.set_cons_zero, List.set_cons_succ])
  ((with_reducible apply V_run); rfl; (intro w M; exact Go.Own.run_load (n := 32) (o := 43) (M.kept.row hr (by simp)) rfl Salg.underlying46 rfl size46 (txSz dv)); rw [txX dv]; simp only [Act.put, List.setIfInBounds_toArray, List.set_cons_zero, List.set_cons_succ])
  refine V_nil ?_
  refine ⟨rfl, ?_, ?_⟩
  · intro w M
    exact ⟨_, Go.Own.run_storeAll (vs := ((List.replicate 32 0).map n8).toArray) M.r0 rfl rfl size46 rfl (one8 _), Mem.put (L1 := []) M (Or.inr hc1) (R8 46 (List.replicate 32 0))⟩
  intro w4 M
  (try simp only [Act.put, List.setIfInBounds_toArray, List.set_cons_zero, List.set_cons_succ])
  refine S_seg 9 10 (by kernel_rfl) (by decide) ?_
  simp only [List.take_succ_cons, List.take_zero, List.drop_zero, List.drop_succ_cons, Nat.sub_zero, Nat.reduceSub]
  go_wp2_with ((with_reducible apply W_storeK (b := c2) (vs := ((List.replicate 32 0).map n8).toArray)); rfl; rfl; exact M.r1; exact size46; (first | rfl | simp []); exact one8 _; intro w3 K hr3; replace M := Mem.callPut (L1 := [_]) M (Or.inr (by assumption)) K hr3; clear K hr3; simp only [List.cons_append, List.nil_append] at M)
  refine S_done ?_
  go_wp2_with fail
  exact ret_cell2 Salg.results162 rfl M.r0 Salg.underlying46 rfl size46 rfl M.r1 Salg.underlying46 rfl size46 rfl ⟨rfl, M.kept⟩

set_option maxHeartbeats 2000000 in
set_option maxRecDepth 100000 in
theorem listOK_any (b : Nat) (dv : Value) (w : World) (hr : w.heap[b]? = some (RTX dv)) : Calls Salg.prog 163 #[.pointer (some ⟨b, 0, none⟩)] w fun e w' => e = .returned (.bool true) ∧ Kept [] w w' := by
  have M := Mem.start w []
  go_enter Salg.func163, Salg.ntmps163
  go_wp2_with ((with_reducible apply W_loadCell (i := 173) (v := nilS)); rfl; exact M.kept.row hr (by simp); rfl; exact Salg.underlying47; rfl; simp only [Act.put, List.setIfInBounds_toArray, List.set_cons_zero, List.set_cons_succ])
  go_loopw [3, 17] (fun _ iv wr => iv = .int .i64 0 ∧ wr = w) (fun _ _ _ => 0)
  case atStart => exact ⟨rfl, rfl⟩
  case round =>
    obtain ⟨rfl, rfl⟩ := hrel
    go_wp2_with fail
    go_ret
    exact ⟨rfl, Kept.refl _ _⟩

set_option maxHeartbeats 2000000 in
set_option maxRecDepth 100000 in
theorem baseFee_any (c tc : Nat) (cs : Array Value) (w : World) (hr : w.heap[c]? = some (.cells cs tc (0, 0))) (hz : ∀ i, i < 32 → cs[146 + i]? = some (n8 0)) (hsz : cs.size = 179) : Calls Salg.prog 123 #[.pointer (some ⟨c, 0, none⟩)] w fun e w' => ∃ u, e = .returned u ∧ NumV w' u 0 ∧ Kept [] w w' := by
  have M := Mem.start w []
  have HC : Hid (Calls Salg.prog 64 #[.slice (some ⟨c, 146, none⟩) 32 32] w fun e w' => ∃ u, e = .returned u ∧ NumV w' u 0 ∧ Kept [] w w') := by
    refine fromBE_at c 146 tc 32 cs (List.replicate 32 0) w hr ?_ (by decide) (small_replicate _)
    intro i x hx
    rw [List.getElem?_replicate] at hx
    split at hx
    · cases hx; exact hz i (by assumption)
    · cases hx
  clear hz
  go_enter Salg.func123, Salg.ntmps123
  go_wp2_with ((with_reducible apply W_sliceArr (l := 0) (h := 32) (m := 32)); rfl; exact Salg.underlying46; exact size5; (first | exact Or.inl ⟨rfl, rfl⟩ | exact Or.inr ⟨_, _, _, rfl, rfl, by omega⟩); (first | exact Or.inl ⟨rfl, rfl⟩ | exact Or.inr ⟨_, _, _, rfl, rfl, by omega⟩); (first | exact Or.inl ⟨rfl, rfl⟩ | exact Or.inr ⟨_, _, _, rfl, rfl, by omega⟩); (first | exact Or.inl rfl | exact Or.inr rfl); omega; omega; omega; omega; (try simp only [Nat.zero_add, Nat.sub_zero]); simp only [Act.put, List.setIfInBounds_toArray, List.set_cons_zero, List.set_cons_succ])
  refine HC.out.mono ?_
  rintro e w2 ⟨u, rfl, hu, K⟩
  go_wp2_with fail
  go_ret
  exact ⟨_, rfl, hu, K⟩

set_option maxHeartbeats 2000000 in
set_option maxRecDepth 100000 in
theorem price_any (c tc : Nat) (cs : Array Value) (dv : Value) (w : World) (hr : w.heap[c]? = some (.cells cs tc (0, 0))) (hz : ∀ i, i < 32 → cs[146 + i]? = some (n8 0)) (hsz : cs.size = 179) : Calls Salg.prog 90 #[.pointer (some ⟨c, 0, none⟩), .agg (txP dv).toArray] w fun e w' => ∃ u, e = .returned u ∧ NumV w' u 0 ∧ Kept [] w w' := by
  have M := Mem.start w []
  have HBF := hid (fun w' (h : w'.heap[c]? = some (.cells cs tc (0, 0))) => baseFee_any c tc cs w' h hz hsz)
  have HFB := hid (fun b w' (h : w'.heap[b]? = some (R8 46 (List.replicate 32 0))) => fromBE_any b 46 (List.replicate 32 0) w' h (by decide) (small_replicate _))
  have HBE : Hid (be (List.replicate 32 0) = 0) := be_zeros (by intro x hx; exact (List.mem_replicate.1 hx).2)
  simp only [HBE.out, List.length_replicate] at HFB
  have hr0 := hr
  clear hz hsz HBE
  go_enter Salg.func90, Salg.ntmps90
  go_wp2_with ((with_reducible apply L_box (d := 3) M); rfl; clear M; intro c1 w1 hc1 M; simp only [Act.put, List.setIfInBounds_toArray, List.set_cons_zero, List.set_cons_succ])
  refine (fees_any c1 dv _ M.r0).mono ?_
  rintro e w2 ⟨rfl, K⟩
  replace M := M.call K
  clear K
  go_wp2_with (first
    | ((with_reducible apply L_allocA (d := 5) M); exact zero46; clear M; intro c2 w1 hc2 M; simp only [Act.put, List.setIfInBounds_toArray, List.set_cons_zero, List.set_cons_succ])
    | ((with_reducible apply L_allocA (d := 6) M); exact zero46; clear M; intro c3 w1 hc3 M; simp only [Act.put, List.setIfInBounds_toArray, List.set_cons_zero, List.set_cons_succ])
    | ((with_reducible apply W_storeK (b := c2) (vs := ((List.replicate 32 0).map n8).toArray)); rfl; rfl; exact M.r1; exact size46; (first | rfl | simp []); exact one8 _; intro w3 K hr3; replace M := Mem.callPut (L1 := [_]) M (Or.inr (by assumption)) K hr3; clear K hr3; simp only [List.cons_append, List.nil_append] at M)
    | ((with_reducible apply W_storeK (b := c3) (vs := ((List.replicate 32 0).map n8).toArray)); rfl; rfl; exact M.r0; exact size46; (first | rfl | simp []); exact one8 _; intro w3 K hr3; replace M := Mem.callPut (L1 := []) M (Or.inr (by assumption)) K hr3; clear K hr3; simp only [List.cons_append, List.nil_append] at M)
    | ((with_reducible apply W_sliceArr (l := 0) (h := 32) (m := 32)); rfl; exact Salg.underlying46; exact size5; (first | exact Or.inl ⟨rfl, rfl⟩ | exact Or.inr ⟨_, _, _, rfl, rfl, by omega⟩); (first | exact Or.inl ⟨rfl, rfl⟩ | exact Or.inr ⟨_, _, _, rfl, rfl, by omega⟩); (first | exact Or.inl ⟨rfl, rfl⟩ | exact Or.inr ⟨_, _, _, rfl, rfl, by omega⟩); (first | exact Or.inl rfl | exact Or.inr rfl); omega; omega; omega; omega; (try simp only [Nat.zero_add, Nat.sub_zero]); simp only [Act.put, List.setIfInBounds_toArray, List.set_cons_zero, List.set_cons_succ]))
  refine (HFB.out c2 _ M.r1).mono ?_
  rintro e w3 ⟨A1, rfl, xHA1, K⟩
  have HA1 := hid xHA1
  replace M := M.call K
  clear K xHA1
  go_wp2_with fail
  refine (HBF.out _ (M.kept.row hr0 (by simp))).mono ?_
  rintro e w4 ⟨A2, rfl, xHA2, K⟩
  have HA2 := hid xHA2
  replace HA1 := hid (HA1.out.kept K)
  replace M := M.call K
  clear K xHA2
  go_wp2_with fail
  refine (less_any _ _ _ _ _ HA1.out HA2.out (by decide) (by decide)).mono ?_
  rintro e w5 ⟨A3, rfl, xHA3, K⟩
  have HA3 := hid xHA3
  replace M := M.call K
  clear K xHA3
  clear HA1 HA2
  go_wp2_with fail
  refine S_region (by kernel_rfl) ?_
  replace M := M.drew
  replace HA3 := hid (HA3.out.kept (Kept.refl [] _).drew)
  refine C_region [0, 2, 4, 1, 3, 5, 6, 7] (by kernel_rfl) M ?_
  simp only [List.filterMap_cons, List.filterMap_nil, List.getElem?_cons_zero, List.getElem?_cons_succ]
  ((with_reducible apply C_run); rfl; rfl; (intro w M; go_simp; (try go_ints); (try simp only [↓IntWalk.iteOmega]); (try with_reducible rfl)); simp only [Act.put, List.setIfInBounds_toArray, List.set_cons_zero, List.set_cons_succ])
  ((with_reducible apply C_run); rfl; rfl; (intro w M; exact run_sliceArr (l := 0) (h := 32) (m := 32) rfl Salg.underlying46 size5 (by (first | exact Or.inl ⟨rfl, rfl⟩ | exact Or.inr ⟨_, _, _, rfl, rfl, by omega⟩)) (by (first | exact Or.inl ⟨rfl, rfl⟩ | exact Or.inr ⟨_, _, _, rfl, rfl, by omega⟩)) (by (first | exact Or.inl ⟨rfl, rfl⟩ | exact Or.inr ⟨_, _, _, rfl, rfl, by omega⟩)) (by first | exact Or.inl rfl | exact Or.inr rfl) (by omega) (by omega) (by omega) (by omega)); (try simp only [Nat.zero_add, Nat.sub_zero]); simp only [Act.put, List.setIfInBounds_toArray, List.set_cons_zero, List.set_cons_succ])
  ((with_reducible apply C_run); rfl; rfl; (intro w M; go_simp; (try go_ints); (try simp only [↓IntWalk.iteOmega]); (try with_reducible rfl)); simp only [Act.put, List.setIfInBounds_toArray, List.set_cons_zero, List.set_cons_succ])
  refine C_call rfl Salg.func123 (by kernel_rfl) (by kernel_rfl) (args := [.pointer (some ⟨c, 0, none⟩)]) rfl ?_
  refine (HBF.out _ (M.kept.row hr0 (by simp))).mono ?_
  rintro e w6 ⟨B1, rfl, xHB1, K⟩
  have HB1 := hid xHB1
  replace HA3 := hid (HA3.out.kept K)
  replace M := M.call K
  clear K xHB1
  refine ⟨_, rfl, M, ?_⟩
  simp only [Act.put, List.setIfInBounds_toArray, List.set_cons_zero, List.set_cons_succ]
  refine C_call rfl Salg.func64 (by kernel_rfl) (by kernel_rfl) (args := [.slice (some ⟨c3, 0, none⟩) 32 32]) rfl ?_
  refine (HFB.out c3 _ M.r0).mono ?_
  rintro e w7 ⟨B2, rfl, xHB2, K⟩
  have HB2 := hid xHB2
  replace HA3 := hid (HA3.out.kept K)
  replace HB1 := hid (HB1.out.kept K)
  replace M := M.call K
  clear K xHB2
  refine ⟨_, rfl, M, ?_⟩
  simp only [Act.put, List.setIfInBounds_toArray, List.set_cons_zero, List.set_cons_succ]
  refine C_call rfl Salg.func121 (by kernel_rfl) (by kernel_rfl) (args := [B2, A3]) rfl ?_
  refine (minNat_any _ _ _ _ _ HB2.out HA3.out).mono ?_
  rintro e w8 ⟨B3, rfl, xHB3, K⟩
  have HB3 := hid xHB3
  replace HB1 := hid (HB1.out.kept K)
  replace M := M.call K
  clear K xHB3
  refine ⟨_, rfl, M, ?_⟩
  simp only [Act.put, List.setIfInBounds_toArray, List.set_cons_zero, List.set_cons_succ]
  refine C_call rfl Salg.func68 (by kernel_rfl) (by kernel_rfl) (args := [B1, B3]) rfl ?_
  refine (add_num _ _ _ _ _ HB1.out HB3.out (by decide) (by decide)).mono ?_
  rintro e w9 ⟨B4, rfl, xHB4, K⟩
  have HB4 := hid xHB4
  replace M := M.call K
  clear K xHB4
  refine ⟨_, rfl, M, ?_⟩
  simp only [Act.put, List.setIfInBounds_toArray, List.set_cons_zero, List.set_cons_succ]
  ((with_reducible apply C_run); rfl; rfl; (intro w M; go_simp; (try go_ints); (try simp only [↓IntWalk.iteOmega]); (try with_reducible rfl)); simp only [Act.put, List.setIfInBounds_toArray, List.set_cons_zero, List.set_cons_succ])
  refine C_nil ?_
  intro _
  go_wp2_with fail
  go_ret
  exact ⟨_, rfl, HB4.out, M.kept⟩
end Go.Proofs.YgcsalGreat

/-
  law.RoundRight: the walks of roundHolds, RoundRight.
-/
import Derived.Test.YgcsalRoundN
import Derived.Test.YgcsalPlainI
import Derived.Test.YgcsalDivMidRight
set_option linter.unusedSimpArgs false
namespace Go.Proofs.Ygcsal
open Go.RowKit Go.Own

set_option maxHeartbeats 4000000 in
set_option maxRecDepth 100000 in
theorem roundHolds_no (us vs : List Nat) (n j : Nat) (w : World) (hu : us.length = 9) (hv : vs.length = 4) (hlu : Limbs us) (hlv : Limbs vs) (hn : n < 256) (hm : midB us vs n j = false) :
    Calls Salg.prog 20 #[A64 us, A64 us, A64 vs, .int .u8 n, .int .u8 j, n64 0, .int .u8 0, .bool false] w fun e w' => e = .returned (.bool true) ∧ Kept [] w w' := by
  have M := Mem.start w []
  have HD := hid (fun (bu bv : Nat) (w : World) (h1 : w.heap[bu]? = some (R64 31 us)) (h2 : w.heap[bv]? = some (R64 25 vs)) => divMid_any bu bv 31 25 us vs n j w h1 h2 hu hv hlu hlv hn)
  rw [hm] at HD
  clear hm
  go_enter Salg.func20, Salg.ntmps20
  go_wp2_with (first
      | ((with_reducible apply L_box (d := 8) M); rfl; clear M; intro b1 w1 hb1 M; simp only [Act.put, List.setIfInBounds_toArray, List.set_cons_zero, List.set_cons_succ])
      | ((with_reducible apply L_box (d := 9) M); rfl; clear M; intro b2 w1 hb2 M; simp only [Act.put, List.setIfInBounds_toArray, List.set_cons_zero, List.set_cons_succ])
      | ((with_reducible apply L_box (d := 10) M); rfl; clear M; intro b3 w1 hb3 M; simp only [Act.put, List.setIfInBounds_toArray, List.set_cons_zero, List.set_cons_succ]))
  refine (HD.out b1 b3 _ M.r2 M.r0).mono ?_
  rintro e w2 ⟨rfl, K⟩
  replace M := M.call K
  clear K HD
  go_wp2_with (first
      | ((with_reducible apply W_loadAllG); rfl; rfl; (first | with_reducible exact M.r0 | with_reducible exact M.r1 | with_reducible exact M.r2 | with_reducible exact M.r3 | with_reducible exact M.r4 | with_reducible exact M.r5 | with_reducible exact M.r6 | assumption | exact M.kept.row (by assumption) (by simp)); exact Salg.underlying31; rfl; (first | with_reducible exact size31 | (rw [size31]; simp [hu])); simp only [Act.put, List.setIfInBounds_toArray, List.set_cons_zero, List.set_cons_succ])
      | ((with_reducible apply L_runG); rfl; exact run_eql64 rfl rfl Salg.underlying31 Salg.underlying23 size23 guard31 hu hu; simp only [decide_true]; simp only [Act.put, List.setIfInBounds_toArray, List.set_cons_zero, List.set_cons_succ]))
  go_ret
  exact ⟨by go_num, M.kept⟩

set_option maxHeartbeats 4000000 in
set_option maxRecDepth 100000 in
theorem roundHolds_yes (us vs : List Nat) (n j : Nat) (w : World) (hu : us.length = 9) (hv : vs.length = 4) (hlu : Limbs us) (hlv : Limbs vs) (hn : n < 256) (hm : midB us vs n j = true) :
    Calls Salg.prog 20 #[A64 us, A64 (roundU us vs n j), A64 vs, .int .u8 n, .int .u8 j, n64 (lval (win us n j) / lval (vs.take n)), .int .u8 ((rt (win us n j) vs n - rq (win us n j) vs n : Nat) : Int), .bool (rb (win us n j) vs n)] w fun e w' =>
      e = .returned (.bool true) ∧ Kept [] w w' := by
  have M := Mem.start w []
  obtain ⟨f1, f2, f3, f4, f5, f6, f7, f8⟩ := mid_facts hu hv hlu hlv hm
  obtain ⟨o1, o2, o3, o4, o5, o6⟩ := round_owes hu hv hlu hlv hm
  have hnow := roundU_length (us := us) (vs := vs) (n := n) (j := j) hu f3
  have hln := roundU_limbs (us := us) (vs := vs) (n := n) (j := j) hlu
  have HRB := hid (fun (bo bn bv : Nat) (w : World) (h1 : w.heap[bo]? = some (R64 31 us)) (h2 : w.heap[bn]? = some (R64 31 (roundU us vs n j))) (h3 : w.heap[bv]? = some (R64 25 vs)) =>
    roundByNat_any bo bn bv 31 31 25 n j us (roundU us vs n j) vs _ _ _ _ _ _ _ _ w h1 h2 h3 hu hnow hv hlu hln hlv f1 f2 f3 (win_getD (Nat.le_refl n) (by omega)) (by rw [show j + n - 1 = j + (n - 1) from by omega]; exact win_getD (by omega) (by omega))
      (by rw [show j + n - 2 = j + (n - 2) from by omega]; exact win_getD (by omega) (by omega)) (by rw [getD_get (by omega)]; exact List.getElem?_eq_getElem _) (by rw [getD_get (by omega)]; exact List.getElem?_eq_getElem _) f4
      (fun i hi => roundU_get hu f3 hi) o1 o2 o3 rfl o4 o5)
  change Hid (∀ bo bn bv (w : World), _ → _ → _ → Calls Salg.prog 42 #[_, _, _, _, _, _, .int .u8 ((rt (win us n j) vs n - rq (win us n j) vs n : Nat) : Int), _] w _) at HRB
  have HD := hid (fun (bu bv : Nat) (w : World) (h1 : w.heap[bu]? = some (R64 31 us)) (h2 : w.heap[bv]? = some (R64 25 vs)) => divMid_any bu bv 31 25 us vs n j w h1 h2 hu hv hlu hlv hn)
  rw [hm] at HD
  have HD2 := hid (fun (h0 : 0 < j) (bu bv : Nat) (w : World) (h1 : w.heap[bu]? = some (R64 31 (roundU us vs n j))) (h2 : w.heap[bv]? = some (R64 25 vs)) => by
    have h := divMid_any bu bv 31 25 (roundU us vs n j) vs n (j - 1) w h1 h2 hnow hv hln hlv hn
    rw [o6 h0] at h
    exact h)
  clear hm f4 f5 f6 f7 f8 o1 o2 o3 o4 o5 o6 hln
  generalize roundU us vs n j = now at *
  generalize lval (win us n j) / lval (vs.take n) = q at *
  generalize rt (win us n j) vs n - rq (win us n j) vs n = fx at *
  generalize rb (win us n j) vs n = back at *
  go_enter Salg.func20, Salg.ntmps20
  go_wp2_with (first
      | ((with_reducible apply L_box (d := 8) M); rfl; clear M; intro b1 w1 hb1 M; simp only [Act.put, List.setIfInBounds_toArray, List.set_cons_zero, List.set_cons_succ])
      | ((with_reducible apply L_box (d := 9) M); rfl; clear M; intro b2 w1 hb2 M; simp only [Act.put, List.setIfInBounds_toArray, List.set_cons_zero, List.set_cons_succ])
      | ((with_reducible apply L_box (d := 10) M); rfl; clear M; intro b3 w1 hb3 M; simp only [Act.put, List.setIfInBounds_toArray, List.set_cons_zero, List.set_cons_succ]))
  refine (HD.out b1 b3 _ M.r2 M.r0).mono ?_
  rintro e w2 ⟨rfl, K⟩
  replace M := M.call K
  clear K HD
  go_wp2_with fail
  refine S_region (by kernel_rfl) ?_
  by_cases h0 : j = 0
  · have d0 : ((j : Int) == 0) = true := by simp [h0]
    have d1 : (j == 0) = true := by simp [h0]
    have d2 : decide (j = 0) = true := by simp [h0]
    clear h0
    refine V_quiet 0 20 (by kernel_rfl) (by decide) M.drew ?_
    clear M
    simp only [List.take_succ_cons, List.take_zero, List.drop_zero, List.drop_succ_cons, Nat.sub_zero, Nat.reduceSub]
    ((with_reducible apply V_run); rfl; (intro w M; exact run_sliceArr (l := 0) (h := 9) (m := 9) rfl Salg.underlying31 size23 (by (first | exact Or.inl ⟨rfl, rfl⟩ | exact Or.inr ⟨_, _, _, rfl, rfl, by omega⟩)) (by (first | exact Or.inl ⟨rfl, rfl⟩ | exact Or.inr ⟨_, _, _, rfl, rfl, by omega⟩)) (by (first | exact Or.inl ⟨rfl, rfl⟩ | exact Or.inr ⟨_, _, _, rfl, rfl, by omega⟩)) (by first | exact Or.inl rfl | exact Or.inr rfl) (by omega) (by omega) (by omega) (by omega)); (try simp only [Nat.zero_add, Nat.sub_zero]); simp only [Act.put, List.setIfInBounds_toArray, List.set_cons_zero, List.set_cons_succ])
    ((with_reducible apply V_run); rfl; (intro w M; exact run_sliceArr (l := 0) (h := 9) (m := 9) rfl Salg.underlying31 size23 (by (first | exact Or.inl ⟨rfl, rfl⟩ | exact Or.inr ⟨_, _, _, rfl, rfl, by omega⟩)) (by (first | exact Or.inl ⟨rfl, rfl⟩ | exact Or.inr ⟨_, _, _, rfl, rfl, by omega⟩)) (by (first | exact Or.inl ⟨rfl, rfl⟩ | exact Or.inr ⟨_, _, _, rfl, rfl, by omega⟩)) (by first | exact Or.inl rfl | exact Or.inr rfl) (by omega) (by omega) (by omega) (by omega)); (try simp only [Nat.zero_add, Nat.sub_zero]); simp only [Act.put, List.setIfInBounds_toArray, List.set_cons_zero, List.set_cons_succ])
    ((with_reducible apply V_run); rfl; (intro w M; exact run_sliceArr (l := 0) (h := 4) (m := 4) rfl Salg.underlying25 size23 (by (first | exact Or.inl ⟨rfl, rfl⟩ | exact Or.inr ⟨_, _, _, rfl, rfl, by omega⟩)) (by (first | exact Or.inl ⟨rfl, rfl⟩ | exact Or.inr ⟨_, _, _, rfl, rfl, by omega⟩)) (by (first | exact Or.inl ⟨rfl, rfl⟩ | exact Or.inr ⟨_, _, _, rfl, rfl, by omega⟩)) (by first | exact Or.inl rfl | exact Or.inr rfl) (by omega) (by omega) (by omega) (by omega)); (try simp only [Nat.zero_add, Nat.sub_zero]); simp only [Act.put, List.setIfInBounds_toArray, List.set_cons_zero, List.set_cons_succ])
    ((with_reducible apply V_run); rfl; (intro w M; go_simp; (try go_ints); (try simp only [↓IntWalk.iteOmega]); (try with_reducible rfl)); simp only [Act.put, List.setIfInBounds_toArray, List.set_cons_zero, List.set_cons_succ])
    ((with_reducible apply V_run); rfl; (intro w M; go_simp; (try go_ints); (try simp only [↓IntWalk.iteOmega]); (try with_reducible rfl)); simp only [Act.put, List.setIfInBounds_toArray, List.set_cons_zero, List.set_cons_succ])
    ((with_reducible apply V_run); rfl; (intro w M; go_simp; (try go_ints); (try simp only [↓IntWalk.iteOmega]); (try with_reducible rfl)); simp only [Act.put, List.setIfInBounds_toArray, List.set_cons_zero, List.set_cons_succ])
    ((with_reducible apply V_run); rfl; (intro w M; go_simp; (try go_ints); (try simp only [↓IntWalk.iteOmega]); (try with_reducible rfl)); simp only [Act.put, List.setIfInBounds_toArray, List.set_cons_zero, List.set_cons_succ])
    ((with_reducible apply V_run); rfl; (intro w M; go_simp; (try go_ints); (try simp only [↓IntWalk.iteOmega]); (try with_reducible rfl)); simp only [Act.put, List.setIfInBounds_toArray, List.set_cons_zero, List.set_cons_succ])
    refine V_call rfl Salg.func42 (by kernel_rfl) (by kernel_rfl) (args := [.slice (some ⟨b1, 0, none⟩) 9 9, .slice (some ⟨b2, 0, none⟩) 9 9, .slice (some ⟨b3, 0, none⟩) 4 4, .int .u8 n, .int .u8 j, .int .u64 q, .int .u8 fx, .bool back]) rfl (fun w M => HRB.out b1 b2 b3 w M.r2 M.r1 M.r0) ?_
    simp only [Act.put, List.setIfInBounds_toArray, List.set_cons_zero, List.set_cons_succ]
    ((with_reducible apply V_run); rfl; (intro w M; go_simp; (try go_ints); (try simp only [↓IntWalk.iteOmega]); (try with_reducible rfl)); simp only [Act.put, List.setIfInBounds_toArray, List.set_cons_zero, List.set_cons_succ])
    ((with_reducible apply V_run); rfl; (intro w M; go_simp; (try go_ints); (try simp only [↓IntWalk.iteOmega]); (try with_reducible rfl)); simp only [Act.put, List.setIfInBounds_toArray, List.set_cons_zero, List.set_cons_succ])
    ((with_reducible apply V_run); rfl; (intro w M; go_simp; (try go_ints); (try simp only [↓IntWalk.iteOmega]); (try with_reducible rfl)); simp only [Act.put, List.setIfInBounds_toArray, List.set_cons_zero, List.set_cons_succ])
    (try simp only [d0, d1, d2])
    ((with_reducible apply V_run); rfl; (intro w M; go_simp; (try go_ints); (try simp only [↓IntWalk.iteOmega]); (try with_reducible rfl)); simp only [Act.put, List.setIfInBounds_toArray, List.set_cons_zero, List.set_cons_succ])
    ((with_reducible apply V_no); rfl; simp only [Act.put, List.setIfInBounds_toArray, List.set_cons_zero, List.set_cons_succ])
    ((with_reducible apply V_no); rfl; simp only [Act.put, List.setIfInBounds_toArray, List.set_cons_zero, List.set_cons_succ])
    ((with_reducible apply V_no); rfl; simp only [Act.put, List.setIfInBounds_toArray, List.set_cons_zero, List.set_cons_succ])
    ((with_reducible apply V_no); rfl; simp only [Act.put, List.setIfInBounds_toArray, List.set_cons_zero, List.set_cons_succ])
    ((with_reducible apply V_run); rfl; (intro w M; go_simp; (try go_ints); (try simp only [↓IntWalk.iteOmega]); (try with_reducible rfl)); simp only [Act.put, List.setIfInBounds_toArray, List.set_cons_zero, List.set_cons_succ])
    ((with_reducible apply V_run); rfl; (intro w M; go_simp; (try go_ints); (try simp only [↓IntWalk.iteOmega]); (try with_reducible rfl)); simp only [Act.put, List.setIfInBounds_toArray, List.set_cons_zero, List.set_cons_succ])
    ((with_reducible apply V_run); rfl; (intro w M; go_simp; (try go_ints); (try simp only [↓IntWalk.iteOmega]); (try with_reducible rfl)); simp only [Act.put, List.setIfInBounds_toArray, List.set_cons_zero, List.set_cons_succ])
    refine V_nil ?_
    intro w3 M
    refine S_done ?_
    go_wp2_with fail
    go_ret
    exact ⟨rfl, M.kept⟩
  · have d0 : ((j : Int) == 0) = false := by simp; omega
    have d1 : (j == 0) = false := by simp; omega
    have d2 : decide (j = 0) = false := by simp; omega
    refine V_quiet 0 20 (by kernel_rfl) (by decide) M.drew ?_
    clear M
    simp only [List.take_succ_cons, List.take_zero, List.drop_zero, List.drop_succ_cons, Nat.sub_zero, Nat.reduceSub]
    ((with_reducible apply V_run); rfl; (intro w M; exact run_sliceArr (l := 0) (h := 9) (m := 9) rfl Salg.underlying31 size23 (by (first | exact Or.inl ⟨rfl, rfl⟩ | exact Or.inr ⟨_, _, _, rfl, rfl, by omega⟩)) (by (first | exact Or.inl ⟨rfl, rfl⟩ | exact Or.inr ⟨_, _, _, rfl, rfl, by omega⟩)) (by (first | exact Or.inl ⟨rfl, rfl⟩ | exact Or.inr ⟨_, _, _, rfl, rfl, by omega⟩)) (by first | exact Or.inl rfl | exact Or.inr rfl) (by omega) (by omega) (by omega) (by omega)); (try simp only [Nat.zero_add, Nat.sub_zero]); simp only [Act.put, List.setIfInBounds_toArray, List.set_cons_zero, List.set_cons_succ])
    ((with_reducible apply V_run); rfl; (intro w M; exact run_sliceArr (l := 0) (h := 9) (m := 9) rfl Salg.underlying31 size23 (by (first | exact Or.inl ⟨rfl, rfl⟩ | exact Or.inr ⟨_, _, _, rfl, rfl, by omega⟩)) (by (first | exact Or.inl ⟨rfl, rfl⟩ | exact Or.inr ⟨_, _, _, rfl, rfl, by omega⟩)) (by (first | exact Or.inl ⟨rfl, rfl⟩ | exact Or.inr ⟨_, _, _, rfl, rfl, by omega⟩)) (by first | exact Or.inl rfl | exact Or.inr rfl) (by omega) (by omega) (by omega) (by omega)); (try simp only [Nat.zero_add, Nat.sub_zero]); simp only [Act.put, List.setIfInBounds_toArray, List.set_cons_zero, List.set_cons_succ])
    ((with_reducible apply V_run); rfl; (intro w M; exact run_sliceArr (l := 0) (h := 4) (m := 4) rfl Salg.underlying25 size23 (by (first | exact Or.inl ⟨rfl, rfl⟩ | exact Or.inr ⟨_, _, _, rfl, rfl, by omega⟩)) (by (first | exact Or.inl ⟨rfl, rfl⟩ | exact Or.inr ⟨_, _, _, rfl, rfl, by omega⟩)) (by (first | exact Or.inl ⟨rfl, rfl⟩ | exact Or.inr ⟨_, _, _, rfl, rfl, by omega⟩)) (by first | exact Or.inl rfl | exact Or.inr rfl) (by omega) (by omega) (by omega) (by omega)); (try simp only [Nat.zero_add, Nat.sub_zero]); simp only [Act.put, List.setIfInBounds_toArray, List.set_cons_zero, List.set_cons_succ])
    ((with_reducible apply V_run); rfl; (intro w M; go_simp; (try go_ints); (try simp only [↓IntWalk.iteOmega]); (try with_reducible rfl)); simp only [Act.put, List.setIfInBounds_toArray, List.set_cons_zero, List.set_cons_succ])
    ((with_reducible apply V_run); rfl; (intro w M; go_simp; (try go_ints); (try simp only [↓IntWalk.iteOmega]); (try with_reducible rfl)); simp only [Act.put, List.setIfInBounds_toArray, List.set_cons_zero, List.set_cons_succ])
    ((with_reducible apply V_run); rfl; (intro w M; go_simp; (try go_ints); (try simp only [↓IntWalk.iteOmega]); (try with_reducible rfl)); simp only [Act.put, List.setIfInBounds_toArray, List.set_cons_zero, List.set_cons_succ])
    ((with_reducible apply V_run); rfl; (intro w M; go_simp; (try go_ints); (try simp only [↓IntWalk.iteOmega]); (try with_reducible rfl)); simp only [Act.put, List.setIfInBounds_toArray, List.set_cons_zero, List.set_cons_succ])
    ((with_reducible apply V_run); rfl; (intro w M; go_simp; (try go_ints); (try simp only [↓IntWalk.iteOmega]); (try with_reducible rfl)); simp only [Act.put, List.setIfInBounds_toArray, List.set_cons_zero, List.set_cons_succ])
    refine V_call rfl Salg.func42 (by kernel_rfl) (by kernel_rfl) (args := [.slice (some ⟨b1, 0, none⟩) 9 9, .slice (some ⟨b2, 0, none⟩) 9 9, .slice (some ⟨b3, 0, none⟩) 4 4, .int .u8 n, .int .u8 j, .int .u64 q, .int .u8 fx, .bool back]) rfl (fun w M => HRB.out b1 b2 b3 w M.r2 M.r1 M.r0) ?_
    simp only [Act.put, List.setIfInBounds_toArray, List.set_cons_zero, List.set_cons_succ]
    ((with_reducible apply V_run); rfl; (intro w M; go_simp; (try go_ints); (try simp only [↓IntWalk.iteOmega]); (try with_reducible rfl)); simp only [Act.put, List.setIfInBounds_toArray, List.set_cons_zero, List.set_cons_succ])
    ((with_reducible apply V_run); rfl; (intro w M; go_simp; (try go_ints); (try simp only [↓IntWalk.iteOmega]); (try with_reducible rfl)); simp only [Act.put, List.setIfInBounds_toArray, List.set_cons_zero, List.set_cons_succ])
    ((with_reducible apply V_run); rfl; (intro w M; go_simp; (try go_ints); (try simp only [↓IntWalk.iteOmega]); (try with_reducible rfl)); simp only [Act.put, List.setIfInBounds_toArray, List.set_cons_zero, List.set_cons_succ])
    (try simp only [d0, d1, d2])
    ((with_reducible apply V_run); rfl; (intro w M; go_simp; (try go_ints); (try simp only [↓IntWalk.iteOmega]); (try with_reducible rfl)); simp only [Act.put, List.setIfInBounds_toArray, List.set_cons_zero, List.set_cons_succ])
    ((with_reducible apply V_run); rfl; (intro w M; go_simp; (try go_ints); (try simp only [↓IntWalk.iteOmega]); (try with_reducible rfl)); simp only [Act.put, List.setIfInBounds_toArray, List.set_cons_zero, List.set_cons_succ])
    ((with_reducible apply V_run); rfl; (intro w M; go_simp; (try go_ints); (try simp only [↓IntWalk.iteOmega]); (try with_reducible rfl)); simp only [Act.put, List.setIfInBounds_toArray, List.set_cons_zero, List.set_cons_succ])
    ((with_reducible apply V_run); rfl; (intro w M; go_simp; (try go_ints); (try simp only [↓IntWalk.iteOmega]); (try with_reducible rfl)); simp only [Act.put, List.setIfInBounds_toArray, List.set_cons_zero, List.set_cons_succ])
    rw [show ((j : Int) - 1) = ((j - 1 : Nat) : Int) from by omega]
    refine V_call rfl Salg.func15 (by kernel_rfl) (by kernel_rfl) (args := [.pointer (some ⟨b2, 0, none⟩), .pointer (some ⟨b3, 0, none⟩), .int .u8 n, .int .u8 ((j - 1 : Nat) : Int)]) rfl (fun w M => HD2.out (by omega) b2 b3 w M.r1 M.r0) ?_
    simp only [Act.put, List.setIfInBounds_toArray, List.set_cons_zero, List.set_cons_succ]
    ((with_reducible apply V_run); rfl; (intro w M; go_simp; (try go_ints); (try simp only [↓IntWalk.iteOmega]); (try with_reducible rfl)); simp only [Act.put, List.setIfInBounds_toArray, List.set_cons_zero, List.set_cons_succ])
    ((with_reducible apply V_run); rfl; (intro w M; go_simp; (try go_ints); (try simp only [↓IntWalk.iteOmega]); (try with_reducible rfl)); simp only [Act.put, List.setIfInBounds_toArray, List.set_cons_zero, List.set_cons_succ])
    ((with_reducible apply V_run); rfl; (intro w M; go_simp; (try go_ints); (try simp only [↓IntWalk.iteOmega]); (try with_reducible rfl)); simp only [Act.put, List.setIfInBounds_toArray, List.set_cons_zero, List.set_cons_succ])
    refine V_nil ?_
    intro w3 M
    refine S_done ?_
    go_wp2_with fail
    go_ret
    exact ⟨rfl, M.kept⟩

set_option maxHeartbeats 4000000 in
set_option maxRecDepth 100000 in
theorem roundRight_any (bs cs : List Nat) (n j : Nat) (w : World) (hb : bs.length = 72) (hc : cs.length = 32) (hsb : Small bs) (hsc : Small cs) (hn : n < 256) (_hj : j < 256) :
    Calls Salg.prog 6 #[A8 bs, A8 cs, .int .u8 n, .int .u8 j] w fun e w' => e = .returned (.bool true) ∧ Kept [] w w' := by
  have M := Mem.start w []
  have hu := lo9_length bs 72
  have hlu := lo9_limbs bs hsb 72
  have hv : (limbs4 cs).length = 4 := rfl
  have hlv := limbs4_limbs cs hsc
  have HLO := hid (fun w => limbsOf_any bs w hb hsb)
  have HFB := hid (fun w => fromBytes_any cs w hc hsc)
  generalize lo9 bs 72 = us at *
  generalize limbs4 cs = vs at *
  -- what the round is and what the law says of it
  obtain ⟨now, q, fx, back, hnow, HRD, HRH⟩ : ∃ (now : List Nat) (q fx : Nat) (back : Bool), now.length = 9 ∧
      Hid (∀ (bu bv : Nat) (w : World), w.heap[bu]? = some (R64 31 us) → w.heap[bv]? = some (R64 25 vs) → bu ≠ bv → Calls Salg.prog 19 #[.pointer (some ⟨bu, 0, none⟩), .pointer (some ⟨bv, 0, none⟩), .int .u8 n, .int .u8 j] w fun e w' =>
        e = .returned (.tuple #[n64 q, .int .u8 fx, .bool back]) ∧ Kept [bu] w w' ∧ w'.heap[bu]? = some (R64 31 now)) ∧
      Hid (∀ w : World, Calls Salg.prog 20 #[A64 us, A64 now, A64 vs, .int .u8 n, .int .u8 j, n64 q, .int .u8 fx, .bool back] w fun e w' => e = .returned (.bool true) ∧ Kept [] w w') := by
    cases hm : midB us vs n j with
    | false =>
      refine ⟨us, 0, 0, false, hu, fun bu bv w h1 h2 _ => ?_, fun w => roundHolds_no us vs n j w hu hv hlu hlv hn hm⟩
      refine (Round_no bu bv 31 25 us vs n j w h1 h2 hu hv hlu hlv hn hm).mono ?_
      rintro e w' ⟨rfl, K⟩
      exact ⟨rfl, K.mono (by simp), K.row h1 (by simp)⟩
    | true =>
      obtain ⟨f1, f2, f3, _⟩ := mid_facts hu hv hlu hlv hm
      exact ⟨_, _, _, _, roundU_length hu f3, fun bu bv w h1 h2 hne => Round_any bu bv 31 25 us vs n j w h1 h2 hne hu hv hlu hlv hm, fun w => roundHolds_yes us vs n j w hu hv hlu hlv hn hm⟩
  clear hlu hlv
  go_enter Salg.func6, Salg.ntmps6
  go_wp2_with (first
      | ((with_reducible apply L_box (d := 4) M); rfl; clear M; intro b1 w1 hb1 M; simp only [Act.put, List.setIfInBounds_toArray, List.set_cons_zero, List.set_cons_succ])
      | ((with_reducible apply L_box (d := 5) M); rfl; clear M; intro b2 w1 hb2 M; simp only [Act.put, List.setIfInBounds_toArray, List.set_cons_zero, List.set_cons_succ])
      | ((with_reducible apply W_loadAll); rfl; (first | with_reducible exact M.r0 | with_reducible exact M.r1 | with_reducible exact M.r2 | with_reducible exact M.r3 | with_reducible exact M.r4 | with_reducible exact M.r5 | with_reducible exact M.r6 | assumption | exact M.kept.row (by assumption) (by simp)); exact Salg.underlying30; rfl; (first | with_reducible exact size30 | (rw [size30]; simp [hb])); simp only [Act.put, List.setIfInBounds_toArray, List.set_cons_zero, List.set_cons_succ])
      | ((with_reducible apply W_loadAll); rfl; (first | with_reducible exact M.r0 | with_reducible exact M.r1 | with_reducible exact M.r2 | with_reducible exact M.r3 | with_reducible exact M.r4 | with_reducible exact M.r5 | with_reducible exact M.r6 | assumption | exact M.kept.row (by assumption) (by simp)); exact Salg.underlying22; rfl; (first | with_reducible exact size22 | (rw [size22]; simp [hc])); simp only [Act.put, List.setIfInBounds_toArray, List.set_cons_zero, List.set_cons_succ])
      | ((with_reducible apply L_allocA M); exact zero31; clear M; intro b3 w1 hb3 M; simp only [Act.put, List.setIfInBounds_toArray, List.set_cons_zero, List.set_cons_succ])
      | ((with_reducible apply L_allocA M); exact zero25; clear M; intro b4 w1 hb4 M; simp only [Act.put, List.setIfInBounds_toArray, List.set_cons_zero, List.set_cons_succ])
      | (go_at_call 13; refine (HLO.out _).mono ?_; rintro e w3 ⟨rfl, K⟩; replace M := M.call K; clear K)
      | (go_at_call 10; refine (HFB.out _).mono ?_; rintro e w3 ⟨rfl, K⟩; replace M := M.call K; clear K)
      | ((with_reducible apply W_storeAll0); rfl; rfl; exact M; exact Or.inr (by assumption); (first | exact size31 | exact size25); (simp [hu, hv]); exact one64 _; clear M; intro w2 M)
      | (go_at_call 19; refine (HRD.out b3 b4 _ M.r1 M.r0 (by have := M.ne01; omega)).mono ?_; rintro e w5 ⟨rfl, K, hr⟩; replace M := Mem.callPut (L1 := [(b4, R64 25 vs)]) M (Or.inr (by assumption)) K hr; clear K hr; rw [List.singleton_append] at M))
  clear HRD
  refine S_region (by kernel_rfl) ?_
  refine V_quiet 0 17 (by kernel_rfl) (by decide) M.drew ?_
  clear M
  simp only [List.take_succ_cons, List.take_zero, List.drop_zero, List.drop_succ_cons, Nat.sub_zero, Nat.reduceSub]
  ((with_reducible apply V_run); rfl; (intro w M; exact run_loadAll (by (first | with_reducible exact M.r0 | with_reducible exact M.r1 | with_reducible exact M.r2 | with_reducible exact M.r3 | with_reducible exact M.r4 | with_reducible exact M.r5 | with_reducible exact M.r6 | assumption | exact M.kept.row (by assumption) (by simp))) rfl Salg.underlying25 rfl (by first | with_reducible exact size25 | (rw [size25]; simp [hv]))); simp only [Act.put, List.setIfInBounds_toArray, List.set_cons_zero, List.set_cons_succ])
  ((with_reducible apply V_run); rfl; (intro w M; exact run_loadAll (by (first | with_reducible exact M.r0 | with_reducible exact M.r1 | with_reducible exact M.r2 | with_reducible exact M.r3 | with_reducible exact M.r4 | with_reducible exact M.r5 | with_reducible exact M.r6 | assumption | exact M.kept.row (by assumption) (by simp))) rfl Salg.underlying22 rfl (by first | with_reducible exact size22 | (rw [size22]; simp [hc]))); simp only [Act.put, List.setIfInBounds_toArray, List.set_cons_zero, List.set_cons_succ])
  refine V_call rfl Salg.func10 (by kernel_rfl) (by kernel_rfl) (args := [A8 cs]) rfl (fun w M => HFB.out w) ?_
  simp only [Act.put, List.setIfInBounds_toArray, List.set_cons_zero, List.set_cons_succ]
  ((with_reducible apply V_run); rfl; (intro w M; exact run_eql64 rfl rfl Salg.underlying25 Salg.underlying23 size23 guard25 hv hv); simp only [decide_true]; simp only [Act.put, List.setIfInBounds_toArray, List.set_cons_zero, List.set_cons_succ])
  ((with_reducible apply V_run); rfl; (intro w M; go_simp; (try go_ints); (try simp only [↓IntWalk.iteOmega]); (try with_reducible rfl)); simp only [Act.put, List.setIfInBounds_toArray, List.set_cons_zero, List.set_cons_succ])
  ((with_reducible apply V_run); rfl; (intro w M; exact run_loadAll (by (first | with_reducible exact M.r0 | with_reducible exact M.r1 | with_reducible exact M.r2 | with_reducible exact M.r3 | with_reducible exact M.r4 | with_reducible exact M.r5 | with_reducible exact M.r6 | assumption | exact M.kept.row (by assumption) (by simp))) rfl Salg.underlying30 rfl (by first | with_reducible exact size30 | (rw [size30]; simp [hb]))); simp only [Act.put, List.setIfInBounds_toArray, List.set_cons_zero, List.set_cons_succ])
  refine V_call rfl Salg.func13 (by kernel_rfl) (by kernel_rfl) (args := [A8 bs]) rfl (fun w M => HLO.out w) ?_
  simp only [Act.put, List.setIfInBounds_toArray, List.set_cons_zero, List.set_cons_succ]
  ((with_reducible apply V_run); rfl; (intro w M; exact run_loadAll (by (first | with_reducible exact M.r0 | with_reducible exact M.r1 | with_reducible exact M.r2 | with_reducible exact M.r3 | with_reducible exact M.r4 | with_reducible exact M.r5 | with_reducible exact M.r6 | assumption | exact M.kept.row (by assumption) (by simp))) rfl Salg.underlying31 rfl (by first | with_reducible exact size31 | (rw [size31]; simp [hnow]))); simp only [Act.put, List.setIfInBounds_toArray, List.set_cons_zero, List.set_cons_succ])
  ((with_reducible apply V_run); rfl; (intro w M; exact run_loadAll (by (first | with_reducible exact M.r0 | with_reducible exact M.r1 | with_reducible exact M.r2 | with_reducible exact M.r3 | with_reducible exact M.r4 | with_reducible exact M.r5 | with_reducible exact M.r6 | assumption | exact M.kept.row (by assumption) (by simp))) rfl Salg.underlying25 rfl (by first | with_reducible exact size25 | (rw [size25]; simp [hv]))); simp only [Act.put, List.setIfInBounds_toArray, List.set_cons_zero, List.set_cons_succ])
  ((with_reducible apply V_run); rfl; (intro w M; go_simp; (try go_ints); (try simp only [↓IntWalk.iteOmega]); (try with_reducible rfl)); simp only [Act.put, List.setIfInBounds_toArray, List.set_cons_zero, List.set_cons_succ])
  ((with_reducible apply V_run); rfl; (intro w M; go_simp; (try go_ints); (try simp only [↓IntWalk.iteOmega]); (try with_reducible rfl)); simp only [Act.put, List.setIfInBounds_toArray, List.set_cons_zero, List.set_cons_succ])
  ((with_reducible apply V_run); rfl; (intro w M; go_simp; (try go_ints); (try simp only [↓IntWalk.iteOmega]); (try with_reducible rfl)); simp only [Act.put, List.setIfInBounds_toArray, List.set_cons_zero, List.set_cons_succ])
  ((with_reducible apply V_run); rfl; (intro w M; go_simp; (try go_ints); (try simp only [↓IntWalk.iteOmega]); (try with_reducible rfl)); simp only [Act.put, List.setIfInBounds_toArray, List.set_cons_zero, List.set_cons_succ])
  ((with_reducible apply V_run); rfl; (intro w M; go_simp; (try go_ints); (try simp only [↓IntWalk.iteOmega]); (try with_reducible rfl)); simp only [Act.put, List.setIfInBounds_toArray, List.set_cons_zero, List.set_cons_succ])
  refine V_call rfl Salg.func20 (by kernel_rfl) (by kernel_rfl) (args := [A64 us, A64 now, A64 vs, .int .u8 n, .int .u8 j, n64 q, .int .u8 fx, .bool back]) rfl (fun w M => HRH.out w) ?_
  simp only [Act.put, List.setIfInBounds_toArray, List.set_cons_zero, List.set_cons_succ]
  ((with_reducible apply V_run); rfl; (intro w M; go_simp; (try go_ints); (try simp only [↓IntWalk.iteOmega]); (try with_reducible rfl)); simp only [Act.put, List.setIfInBounds_toArray, List.set_cons_zero, List.set_cons_succ])
  ((with_reducible apply V_run); rfl; (intro w M; go_simp; (try go_ints); (try simp only [↓IntWalk.iteOmega]); (try with_reducible rfl)); simp only [Act.put, List.setIfInBounds_toArray, List.set_cons_zero, List.set_cons_succ])
  refine V_nil ?_
  intro w3 M
  refine S_done ?_
  go_wp2_with fail
  go_ret
  exact ⟨rfl, M.kept⟩
end Go.Proofs.Ygcsal

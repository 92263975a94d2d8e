/-
  The walks of u256.FromBytes and BE32.
-/
import Derived.Test.YgcsalNum
import Derived.Test.YgcsalOrder
set_option linter.unusedSimpArgs false
namespace Go.Own
/-- The four limbs of 32 bytes, the least first. -/
def limbs4 (bs : List Nat) : List Nat := [be ((bs.drop 24).take 8), be ((bs.drop 16).take 8), be ((bs.drop 8).take 8), be ((bs.drop 0).take 8)]
end Go.Own
namespace Go.Proofs.Ygcsal
open Go.RowKit Go.Own

set_option maxHeartbeats 1000000 in
set_option maxRecDepth 100000 in
theorem fromBytes_any (bs : List Nat) (w : World) (hn : bs.length = 32) (hb : ∀ c ∈ bs, c < 256) :
    Calls Salg.prog 10 #[A8 bs] w fun e w' => e = .returned (A64 (limbs4 bs)) ∧ Kept [] w w' := by
  have M := Mem.start w []
  unfold limbs4
  go_enter Salg.func10, Salg.ntmps10
  go_wp2_with (first
    | ((with_reducible apply L_box M); rfl; clear M; intro b1 w1 hb1 M; simp only [Act.put, List.setIfInBounds_toArray, List.set_cons_zero, List.set_cons_succ])
    | ((with_reducible apply L_allocA M); exact zero25; clear M; intro b2 w1 hb2 M; simp only [Act.put, List.setIfInBounds_toArray, List.set_cons_zero, List.set_cons_succ])
    | (go_at_call 36; refine (be64_int _ _ bs _ M.r1 hn (by decide) (by decide) hb).mono ?_; rintro e w3 ⟨rfl, K⟩; replace M := M.call K; clear K)
    | ((with_reducible apply W_storeAll0); rfl; rfl; exact M; exact Or.inr hb2; exact size25; rfl; exact one64 [_, _, _, _]; clear M; intro w2 M))
  exact ret_cell1 Salg.results10 rfl M.r0 Salg.underlying25 rfl size25 rfl ⟨rfl, M.kept⟩

set_option maxHeartbeats 1000000 in
set_option maxRecDepth 100000 in
theorem be32_any (l0 l1 l2 l3 : Nat) (w : World) (h0 : l0 < 18446744073709551616) (h1 : l1 < 18446744073709551616) (h2 : l2 < 18446744073709551616) (h3 : l3 < 18446744073709551616) :
    Calls Salg.prog 12 #[A64 [l0, l1, l2, l3]] w fun e w' => e = .returned (A8 (put8 (put8 (put8 (put8 (List.replicate 32 0) 0 l3) 8 l2) 16 l1) 24 l0)) ∧ Kept [] w w' := by
  have M := Mem.start w []
  go_enter Salg.func12, Salg.ntmps12
  go_wp2_with (first
    | ((with_reducible apply L_box M); rfl; clear M; intro b1 w1 hb1 M; simp only [Act.put, List.setIfInBounds_toArray, List.set_cons_zero, List.set_cons_succ])
    | ((with_reducible apply L_allocA (d := 2) M); exact zero22; clear M; intro b2 w1 hb2 M; simp only [Act.put, List.setIfInBounds_toArray, List.set_cons_zero, List.set_cons_succ])
    | ((with_reducible apply L_allocA (d := 3) M); exact zero22; clear M; intro b3 w1 hb3 M; simp only [Act.put, List.setIfInBounds_toArray, List.set_cons_zero, List.set_cons_succ]))
  refine S_region (by kernel_rfl) ?_
  refine S_quiet 0 3 (by kernel_rfl) (by decide) M.drew ?_
  clear M
  simp only [List.take_succ_cons, List.take_zero, List.drop_zero, List.drop_succ_cons, Nat.sub_zero, Nat.reduceSub]
  ((with_reducible apply Q_run); rfl; (intro w M; go_simp; (try go_ints); (try simp only [↓IntWalk.iteOmega]); (try with_reducible rfl)); simp only [Act.put, List.setIfInBounds_toArray, List.set_cons_zero, List.set_cons_succ])
  ((with_reducible apply Q_run); rfl; (intro w M; go_simp; (try go_ints); (try simp only [↓IntWalk.iteOmega]); (try with_reducible rfl)); simp only [Act.put, List.setIfInBounds_toArray, List.set_cons_zero, List.set_cons_succ])
  ((with_reducible apply Q_run); rfl; (intro w M; exact run_loadCell (by (first | with_reducible exact M.r0 | with_reducible exact M.r1 | with_reducible exact M.r2 | with_reducible exact M.r3 | with_reducible exact M.r4 | with_reducible exact M.r5 | with_reducible exact M.r6 | assumption | exact M.kept.row (by assumption) (by simp))) rfl (by (first | exact get_map (by assumption) | exact get_map rfl | rfl)) Salg.underlying23 rfl); simp only [Act.put, List.setIfInBounds_toArray, List.set_cons_zero, List.set_cons_succ])
  refine Q_nil ?_
  intro w2 M
  refine S_seg 3 4 (by kernel_rfl) (by decide) ?_
  simp only [List.take_succ_cons, List.take_zero, List.drop_zero, List.drop_succ_cons, Nat.sub_zero, Nat.reduceSub]
  go_wp2_with (go_at_call 37; refine (put64_int _ _ _ _ _ M.r0 (by simp [put8_length]) (by decide) (by decide) (by assumption)).mono ?_; rintro e w3 ⟨rfl, K, hr⟩; replace M := Mem.callPut (L1 := []) M (Or.inr hb3) K hr; clear K hr)
  refine S_done ?_
  go_wp2_with (first
    | ((with_reducible apply W_loadAll); rfl; (first | with_reducible exact M.r0 | with_reducible exact M.r1 | with_reducible exact M.r2 | with_reducible exact M.r3 | with_reducible exact M.r4 | with_reducible exact M.r5 | with_reducible exact M.r6 | assumption | exact M.kept.row (by assumption) (by simp)); exact Salg.underlying22; rfl; (first | with_reducible exact size22 | (rw [size22]; simp [put8_length])); simp only [Act.put, List.setIfInBounds_toArray, List.set_cons_zero, List.set_cons_succ])
    | ((with_reducible apply W_storeAll1); rfl; rfl; exact M; exact Or.inr hb2; exact size22; (simp [put8_length]); exact one8 _; clear M; intro w4 M))
  refine S_region (by kernel_rfl) ?_
  refine S_quiet 0 3 (by kernel_rfl) (by decide) M.drew ?_
  clear M
  simp only [List.take_succ_cons, List.take_zero, List.drop_zero, List.drop_succ_cons, Nat.sub_zero, Nat.reduceSub]
  ((with_reducible apply Q_run); rfl; (intro w M; go_simp; (try go_ints); (try simp only [↓IntWalk.iteOmega]); (try with_reducible rfl)); simp only [Act.put, List.setIfInBounds_toArray, List.set_cons_zero, List.set_cons_succ])
  ((with_reducible apply Q_run); rfl; (intro w M; go_simp; (try go_ints); (try simp only [↓IntWalk.iteOmega]); (try with_reducible rfl)); simp only [Act.put, List.setIfInBounds_toArray, List.set_cons_zero, List.set_cons_succ])
  ((with_reducible apply Q_run); rfl; (intro w M; exact run_loadCell (by (first | with_reducible exact M.r0 | with_reducible exact M.r1 | with_reducible exact M.r2 | with_reducible exact M.r3 | with_reducible exact M.r4 | with_reducible exact M.r5 | with_reducible exact M.r6 | assumption | exact M.kept.row (by assumption) (by simp))) rfl (by (first | exact get_map (by assumption) | exact get_map rfl | rfl)) Salg.underlying23 rfl); simp only [Act.put, List.setIfInBounds_toArray, List.set_cons_zero, List.set_cons_succ])
  refine Q_nil ?_
  intro w2 M
  refine S_seg 3 4 (by kernel_rfl) (by decide) ?_
  simp only [List.take_succ_cons, List.take_zero, List.drop_zero, List.drop_succ_cons, Nat.sub_zero, Nat.reduceSub]
  go_wp2_with (go_at_call 37; refine (put64_int _ _ _ _ _ M.r0 (by simp [put8_length]) (by decide) (by decide) (by assumption)).mono ?_; rintro e w3 ⟨rfl, K, hr⟩; replace M := Mem.callPut (L1 := []) M (Or.inr hb3) K hr; clear K hr)
  refine S_done ?_
  go_wp2_with (first
    | ((with_reducible apply W_loadAll); rfl; (first | with_reducible exact M.r0 | with_reducible exact M.r1 | with_reducible exact M.r2 | with_reducible exact M.r3 | with_reducible exact M.r4 | with_reducible exact M.r5 | with_reducible exact M.r6 | assumption | exact M.kept.row (by assumption) (by simp)); exact Salg.underlying22; rfl; (first | with_reducible exact size22 | (rw [size22]; simp [put8_length])); simp only [Act.put, List.setIfInBounds_toArray, List.set_cons_zero, List.set_cons_succ])
    | ((with_reducible apply W_storeAll1); rfl; rfl; exact M; exact Or.inr hb2; exact size22; (simp [put8_length]); exact one8 _; clear M; intro w4 M))
  refine S_region (by kernel_rfl) ?_
  refine S_quiet 0 3 (by kernel_rfl) (by decide) M.drew ?_
  clear M
  simp only [List.take_succ_cons, List.take_zero, List.drop_zero, List.drop_succ_cons, Nat.sub_zero, Nat.reduceSub]
  ((with_reducible apply Q_run); rfl; (intro w M; go_simp; (try go_ints); (try simp only [↓IntWalk.iteOmega]); (try with_reducible rfl)); simp only [Act.put, List.setIfInBounds_toArray, List.set_cons_zero, List.set_cons_succ])
  ((with_reducible apply Q_run); rfl; (intro w M; go_simp; (try go_ints); (try simp only [↓IntWalk.iteOmega]); (try with_reducible rfl)); simp only [Act.put, List.setIfInBounds_toArray, List.set_cons_zero, List.set_cons_succ])
  ((with_reducible apply Q_run); rfl; (intro w M; exact run_loadCell (by (first | with_reducible exact M.r0 | with_reducible exact M.r1 | with_reducible exact M.r2 | with_reducible exact M.r3 | with_reducible exact M.r4 | with_reducible exact M.r5 | with_reducible exact M.r6 | assumption | exact M.kept.row (by assumption) (by simp))) rfl (by (first | exact get_map (by assumption) | exact get_map rfl | rfl)) Salg.underlying23 rfl); simp only [Act.put, List.setIfInBounds_toArray, List.set_cons_zero, List.set_cons_succ])
  refine Q_nil ?_
  intro w2 M
  refine S_seg 3 4 (by kernel_rfl) (by decide) ?_
  simp only [List.take_succ_cons, List.take_zero, List.drop_zero, List.drop_succ_cons, Nat.sub_zero, Nat.reduceSub]
  go_wp2_with (go_at_call 37; refine (put64_int _ _ _ _ _ M.r0 (by simp [put8_length]) (by decide) (by decide) (by assumption)).mono ?_; rintro e w3 ⟨rfl, K, hr⟩; replace M := Mem.callPut (L1 := []) M (Or.inr hb3) K hr; clear K hr)
  refine S_done ?_
  go_wp2_with (first
    | ((with_reducible apply W_loadAll); rfl; (first | with_reducible exact M.r0 | with_reducible exact M.r1 | with_reducible exact M.r2 | with_reducible exact M.r3 | with_reducible exact M.r4 | with_reducible exact M.r5 | with_reducible exact M.r6 | assumption | exact M.kept.row (by assumption) (by simp)); exact Salg.underlying22; rfl; (first | with_reducible exact size22 | (rw [size22]; simp [put8_length])); simp only [Act.put, List.setIfInBounds_toArray, List.set_cons_zero, List.set_cons_succ])
    | ((with_reducible apply W_storeAll1); rfl; rfl; exact M; exact Or.inr hb2; exact size22; (simp [put8_length]); exact one8 _; clear M; intro w4 M))
  refine S_region (by kernel_rfl) ?_
  refine S_quiet 0 3 (by kernel_rfl) (by decide) M.drew ?_
  clear M
  simp only [List.take_succ_cons, List.take_zero, List.drop_zero, List.drop_succ_cons, Nat.sub_zero, Nat.reduceSub]
  ((with_reducible apply Q_run); rfl; (intro w M; go_simp; (try go_ints); (try simp only [↓IntWalk.iteOmega]); (try with_reducible rfl)); simp only [Act.put, List.setIfInBounds_toArray, List.set_cons_zero, List.set_cons_succ])
  ((with_reducible apply Q_run); rfl; (intro w M; go_simp; (try go_ints); (try simp only [↓IntWalk.iteOmega]); (try with_reducible rfl)); simp only [Act.put, List.setIfInBounds_toArray, List.set_cons_zero, List.set_cons_succ])
  ((with_reducible apply Q_run); rfl; (intro w M; exact run_loadCell (by (first | with_reducible exact M.r0 | with_reducible exact M.r1 | with_reducible exact M.r2 | with_reducible exact M.r3 | with_reducible exact M.r4 | with_reducible exact M.r5 | with_reducible exact M.r6 | assumption | exact M.kept.row (by assumption) (by simp))) rfl (by (first | exact get_map (by assumption) | exact get_map rfl | rfl)) Salg.underlying23 rfl); simp only [Act.put, List.setIfInBounds_toArray, List.set_cons_zero, List.set_cons_succ])
  refine Q_nil ?_
  intro w2 M
  refine S_seg 3 4 (by kernel_rfl) (by decide) ?_
  simp only [List.take_succ_cons, List.take_zero, List.drop_zero, List.drop_succ_cons, Nat.sub_zero, Nat.reduceSub]
  go_wp2_with (go_at_call 37; refine (put64_int _ _ _ _ _ M.r0 (by simp [put8_length]) (by decide) (by decide) (by assumption)).mono ?_; rintro e w3 ⟨rfl, K, hr⟩; replace M := Mem.callPut (L1 := []) M (Or.inr hb3) K hr; clear K hr)
  refine S_done ?_
  go_wp2_with (first
    | ((with_reducible apply W_loadAll); rfl; (first | with_reducible exact M.r0 | with_reducible exact M.r1 | with_reducible exact M.r2 | with_reducible exact M.r3 | with_reducible exact M.r4 | with_reducible exact M.r5 | with_reducible exact M.r6 | assumption | exact M.kept.row (by assumption) (by simp)); exact Salg.underlying22; rfl; (first | with_reducible exact size22 | (rw [size22]; simp [put8_length])); simp only [Act.put, List.setIfInBounds_toArray, List.set_cons_zero, List.set_cons_succ])
    | ((with_reducible apply W_storeAll1); rfl; rfl; exact M; exact Or.inr hb2; exact size22; (simp [put8_length]); exact one8 _; clear M; intro w4 M))
  exact ret_cell1 Salg.results12 rfl M.r1 Salg.underlying22 rfl (by rw [size22]; simp [put8_length]) rfl ⟨rfl, M.kept⟩
end Go.Proofs.Ygcsal

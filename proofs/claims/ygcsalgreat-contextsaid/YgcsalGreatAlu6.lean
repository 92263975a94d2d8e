/-
  The walks of num.Len64 and u256's NBytes.
-/
import Derived.Test.YgcsalGreatAlu3
set_option linter.unusedSimpArgs false
namespace Go.Proofs.YgcsalGreat
open Go.RowKit Go.Own

set_option maxHeartbeats 2000000 in
set_option maxRecDepth 100000 in
theorem wLen64 (x : Nat) (hx : x < 18446744073709551616) (w : World) : Calls Salg.prog 136 #[.int .u64 x] w fun e w' => e = .returned (.int .i64 (blen x : Nat)) ∧ w' = w := by
  have HC := hid (fun w => len64_any x hx w)
  have hb := blen_le (x := x) (k := 64) hx
  generalize blen x = L at *
  go_enter Salg.func136, Salg.ntmps136
  go_wp2_with fail
  refine (HC.out _).mono ?_
  rintro e w2 ⟨rfl, rfl⟩
  go_wp2_with fail
  go_ret
  exact ⟨rfl, rfl⟩

set_option maxHeartbeats 2000000 in
set_option maxRecDepth 100000 in
theorem wNBytes (xs : List Nat) (w : World) (hx : xs.length = 4) (hLx : Limbs xs) :
    Calls Salg.prog 78 #[A64 xs] w fun e w' => e = .returned (.int .u8 ((blen (lval xs) + 7) / 8 : Nat)) ∧ Kept [] w w' := by
  have M := Mem.start w []
  have HLM := hid (fun w => limbs_any xs w hx)
  have hn := tl_nlb hLx hx
  simp only [hn] at HLM
  by_cases h0 : lval xs = 0
  · have hb : (blen (lval xs) + 7) / 8 = 0 := by rw [h0]; decide
    rw [h0, nlb_zero] at HLM
    rw [hb]
    clear hb h0 hn hLx
    go_enter Salg.func78, Salg.ntmps78
    go_wp2_with (first
      | ((with_reducible apply L_box (d := 1) M); rfl; clear M; intro c1 w1 hc1 M; simp only [Act.put, List.setIfInBounds_toArray, List.set_cons_zero, List.set_cons_succ])
      | ((with_reducible apply W_loadAll); rfl; (first | with_reducible exact M.r0 | with_reducible exact M.r1 | with_reducible exact M.r2 | with_reducible exact M.r3 | with_reducible exact M.r4 | with_reducible exact M.r5 | with_reducible exact M.r6 | assumption | exact M.kept.row (by assumption) (by simp)); exact Salg.underlying25; rfl; (first | with_reducible exact size25 | (rw [size25]; simp [hx])); simp only [Act.put, List.setIfInBounds_toArray, List.set_cons_zero, List.set_cons_succ]))
    refine (HLM.out _).mono ?_
    rintro e w2 ⟨rfl, K⟩
    replace M := M.call K
    clear K HLM
    go_wp2_with fail
    go_ret
    exact ⟨rfl, M.kept⟩
  · have hp := nlb_pos h0
    obtain ⟨h4, ht, hb⟩ := blen_top hLx hx rfl hp
    have htl : xs.getD (nlb (lval xs) - 1) 0 < 18446744073709551616 := by rw [getD_get (by omega)]; exact hLx.get _
    have hg : xs[nlb (lval xs) - 1]? = some (xs.getD (nlb (lval xs) - 1) 0) := by rw [getD_get (by omega)]; exact List.getElem?_eq_getElem _
    have hbl := blen_le (x := xs.getD (nlb (lval xs) - 1) 0) (k := 64) htl
    have hbn : blen (lval xs) ≤ 64 * nlb (lval xs) := by unfold nlb; omega
    have HE : Hid ((blen (lval xs) + 7) / 8 = 8 * (nlb (lval xs) - 1) + (blen (xs.getD (nlb (lval xs) - 1) 0) + 7) / 8) := by show _ = _; omega
    rw [HE.out]
    have HC := hid (fun w => wLen64 _ htl w)
    generalize blen (xs.getD (nlb (lval xs) - 1) 0) = bl at *
    generalize xs.getD (nlb (lval xs) - 1) 0 = t at *
    clear HE hb hbn hn htl ht hLx h0
    generalize nlb (lval xs) = n at *
    have dn : ((n : Int) == 0) = false := by rw [beq_eq_false_iff_ne]; omega
    go_enter Salg.func78, Salg.ntmps78
    go_wp2_with (first
      | ((with_reducible apply L_box (d := 1) M); rfl; clear M; intro c1 w1 hc1 M; simp only [Act.put, List.setIfInBounds_toArray, List.set_cons_zero, List.set_cons_succ])
      | ((with_reducible apply W_loadAll); rfl; (first | with_reducible exact M.r0 | with_reducible exact M.r1 | with_reducible exact M.r2 | with_reducible exact M.r3 | with_reducible exact M.r4 | with_reducible exact M.r5 | with_reducible exact M.r6 | assumption | exact M.kept.row (by assumption) (by simp)); exact Salg.underlying25; rfl; (first | with_reducible exact size25 | (rw [size25]; simp [hx])); simp only [Act.put, List.setIfInBounds_toArray, List.set_cons_zero, List.set_cons_succ]))
    refine (HLM.out _).mono ?_
    rintro e w2 ⟨rfl, K⟩
    replace M := M.call K
    clear K HLM
    go_wp2_with ((with_reducible apply W_loadCell); rfl; (first | with_reducible exact M.r0 | with_reducible exact M.r1 | with_reducible exact M.r2 | with_reducible exact M.r3 | with_reducible exact M.r4 | with_reducible exact M.r5 | with_reducible exact M.r6 | assumption | exact M.kept.row (by assumption) (by simp)); (first | exact get_map (by assumption) | exact get_map rfl | rfl); exact Salg.underlying23; rfl; simp only [Act.put, List.setIfInBounds_toArray, List.set_cons_zero, List.set_cons_succ])
    refine (HC.out _).mono ?_
    rintro e w3 ⟨rfl, rfl⟩
    go_wp2_with fail
    go_ret
    exact ⟨by go_num, M.kept⟩
end Go.Proofs.YgcsalGreat

/-
  The walks of u256.Rem512 and law.remHolds.
-/
import Derived.Test.YgcsalGreatDivRem
set_option linter.unusedSimpArgs false
namespace Go.Proofs.YgcsalGreat
open Go.RowKit Go.Own

set_option maxHeartbeats 2000000 in
set_option maxRecDepth 100000 in
theorem rem512_any (xs vs : List Nat) (w : World) (hx : xs.length = 8) (hv : vs.length = 4) (hLx : Limbs xs) (hLv : Limbs vs) :
    Calls Salg.prog 134 #[A64 xs, A64 vs] w fun e w' => e = .returned (.tuple #[A64 (nl 4 (remN (lval xs) (lval vs))), A8 (pathL (lval xs) (lval vs))]) ∧ Kept [] w w' := by
  have M := Mem.start w []
  have HDV := hid (fun (b : Nat) (w : World) (h : w.heap[b]? = some (R64 183 xs)) => divide_any b 183 xs vs w h hx hv hLx hLv)
  have hrl := nl_length 4 (remN (lval xs) (lval vs))
  have hpl : (pathL (lval xs) (lval vs)).length = 3 := rfl
  generalize nl 4 (remN (lval xs) (lval vs)) = r4 at *
  generalize pathL (lval xs) (lval vs) = p3 at *
  clear hLx hLv
  go_enter Salg.func134, Salg.ntmps134
  go_wp2_with (first
    | ((with_reducible apply L_box (d := 2) M); rfl; clear M; intro b1 w1 hb1 M; simp only [Act.put, List.setIfInBounds_toArray, List.set_cons_zero, List.set_cons_succ])
    | ((with_reducible apply L_box (d := 3) M); rfl; clear M; intro b2 w1 hb2 M; simp only [Act.put, List.setIfInBounds_toArray, List.set_cons_zero, List.set_cons_succ])
    | ((with_reducible apply L_allocA M); exact zero25; clear M; intro b3 w1 hb3 M; simp only [Act.put, List.setIfInBounds_toArray, List.set_cons_zero, List.set_cons_succ])
    | ((with_reducible apply L_allocA M); exact zero178; clear M; intro b4 w1 hb4 M; simp only [Act.put, List.setIfInBounds_toArray, List.set_cons_zero, List.set_cons_succ])
    | ((with_reducible apply W_loadAll); rfl; (first | with_reducible exact M.r0 | with_reducible exact M.r1 | with_reducible exact M.r2 | with_reducible exact M.r3 | with_reducible exact M.r4 | with_reducible exact M.r5 | with_reducible exact M.r6 | assumption | exact M.kept.row (by assumption) (by simp)); exact Salg.underlying25; rfl; (first | with_reducible exact size25 | (rw [size25]; simp [hv])); simp only [Act.put, List.setIfInBounds_toArray, List.set_cons_zero, List.set_cons_succ]))
  refine (HDV.out b1 _ M.r3).mono ?_
  rintro e w4 ⟨rfl, K, hr3⟩
  replace M := Mem.callPut (L1 := [_, _, _]) M (Or.inr (by assumption)) K hr3
  simp only [List.cons_append, List.nil_append] at M
  clear K hr3 HDV
  go_wp2_with (first
    | ((with_reducible apply W_storeK (b := b3)); rfl; rfl; exact M.r1; exact size25; (simp [hrl]); exact one64 _; intro w3 K hr3; replace M := Mem.callPut (L1 := [_]) M (Or.inr (by assumption)) K hr3; clear K hr3; simp only [List.cons_append, List.nil_append] at M)
    | ((with_reducible apply W_storeK (b := b4)); rfl; rfl; exact M.r0; exact size178; (simp [hpl]); exact one8 _; intro w3 K hr3; replace M := Mem.callPut (L1 := []) M (Or.inr (by assumption)) K hr3; clear K hr3; simp only [List.cons_append, List.nil_append] at M))
  exact ret_cell2 Salg.results134 rfl M.r1 Salg.underlying25 rfl (by rw [size25]; simp [hrl]) rfl M.r0 Salg.underlying178 rfl (by rw [size178]; simp [hpl]) rfl ⟨rfl, M.kept⟩

end Go.Proofs.YgcsalGreat

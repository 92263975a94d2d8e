/-
  The walks of u256.FromBytes and BE32.
-/
import Derived.Test.YgcsalGreatNum
import Derived.Test.YgcsalGreatOrder
set_option linter.unusedSimpArgs false
namespace Go.Own
/-- The four limbs of 32 bytes, the least first. -/
def limbs4 (bs : List Nat) : List Nat := [be ((bs.drop 24).take 8), be ((bs.drop 16).take 8), be ((bs.drop 8).take 8), be ((bs.drop 0).take 8)]
end Go.Own
namespace Go.Proofs.YgcsalGreat
open Go.RowKit Go.Own

set_option maxHeartbeats 1000000 in
set_option maxRecDepth 100000 in
theorem fromBytes_any (bs : List Nat) (w : World) (hn : bs.length = 32) (hb : ∀ c ∈ bs, c < 256) :
    Calls Salg.prog 8 #[A8 bs] w fun e w' => e = .returned (A64 (limbs4 bs)) ∧ Kept [] w w' := by
  have M := Mem.start w []
  unfold limbs4
  go_enter Salg.func8, Salg.ntmps8
  go_wp2_with (first
    | ((with_reducible apply L_box M); rfl; clear M; intro b1 w1 hb1 M; simp only [Act.put, List.setIfInBounds_toArray, List.set_cons_zero, List.set_cons_succ])
    | ((with_reducible apply L_allocA M); exact zero25; clear M; intro b2 w1 hb2 M; simp only [Act.put, List.setIfInBounds_toArray, List.set_cons_zero, List.set_cons_succ])
    | (go_at_call 37; refine (be64_int _ _ bs _ M.r1 hn (by decide) (by decide) hb).mono ?_; rintro e w3 ⟨rfl, K⟩; replace M := M.call K; clear K)
    | ((with_reducible apply W_storeAll0); rfl; rfl; exact M; exact Or.inr hb2; exact size25; rfl; exact one64 [_, _, _, _]; clear M; intro w2 M))
  exact ret_cell1 Salg.results8 rfl M.r0 Salg.underlying25 rfl size25 rfl ⟨rfl, M.kept⟩

end Go.Proofs.YgcsalGreat

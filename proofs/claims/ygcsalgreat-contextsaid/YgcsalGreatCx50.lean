/-
  Context, all kinds.
-/
import Derived.Test.YgcsalGreatCx49
set_option linter.unusedSimpArgs false
set_option linter.unusedVariables false
namespace Go.Proofs.YgcsalGreat
open Go.RowKit Go.Own
theorem context_kind (r st dp : Nat) (sb : Bool) (sf cl : List Nat) (k tv v : Nat) (w : World) (hr : k % 8 = r) (htv : tv < 256) (hsf : sf.length = 20) (hcl : cl.length = 20)
    (h : ∀ (v : Nat) (w : World), v ≤ tv → Calls Salg.prog 26 #[n8 r, n8 tv, n8 v] w fun e w' => ∃ (cs : Value) (tx row : List Value), e = .returned (.agg row.toArray) ∧ RowOK row cs tx dp ∧ StageC r row sb dp sf cl tx cs w' ∧ Kept [] w w') :
    Calls Salg.prog 6 #[n8 k, n8 tv, n8 v] w fun e w' => e = .returned (.bool true) ∧ Kept [] w w' := by
  rcases Nat.lt_or_ge tv v with hv | hv
  · exact context_gt k r tv v sb dp sf cl w hr hsf hcl hv (fun w' _ => h tv w' (Nat.le_refl _))
  · exact context_le k r tv v sb dp sf cl w hr hsf hcl hv (fun w' _ => h v w' hv)
theorem context_any (k tv v : Nat) (w : World) (htv : tv < 256) : Calls Salg.prog 6 #[n8 k, n8 tv, n8 v] w fun e w' => e = .returned (.bool true) ∧ Kept [] w w' := by
  have h8 : k % 8 = 0 ∨ k % 8 = 1 ∨ k % 8 = 2 ∨ k % 8 = 3 ∨ k % 8 = 4 ∨ k % 8 = 5 ∨ k % 8 = 6 ∨ k % 8 = 7 := by omega
  rcases h8 with h | h | h | h | h | h | h | h
  · exact context_kind 0 0 0 false (ad 2) (ad 240) k tv v w h htv rfl rfl (fun v w hv => cway_0 tv v w htv hv)
  · exact context_kind 1 0 1 false (ad 2) (ad 1) k tv v w h htv rfl rfl (fun v w hv => cway_1 tv v w htv hv)
  · exact context_kind 2 0 1 false (ad 1) (ad 240) k tv v w h htv rfl rfl (fun v w hv => cway_2 tv v w htv hv)
  · exact context_kind 3 0 1 true (ad 2) (ad 1) k tv v w h htv rfl rfl (fun v w hv => cway_3 tv v w htv hv)
  · exact context_kind 4 0 2 true (ad 2) (ad 3) k tv v w h htv rfl rfl (fun v w hv => cway_4 tv v w htv hv)
  · exact context_kind 5 0 2 true (ad 3) (ad 1) k tv v w h htv rfl rfl (fun v w hv => cway_5 tv v w htv hv)
  · exact context_kind 6 0 1 false ha6 (ad 1) k tv v w h htv rfl rfl (fun v w hv => cway_6 tv v w htv hv)
  · exact context_kind 7 0 0 false ha7 (ad 240) k tv v w h htv rfl rfl (fun v w hv => cway_7 tv v w htv hv)
end Go.Proofs.YgcsalGreat

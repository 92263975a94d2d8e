/-
  law.wordAlu and yp.Alu: every operation at once.
-/
import Derived.Test.YgcsalGreatYp10
import Derived.Test.YgcsalGreatAlu12
set_option linter.unusedSimpArgs false
set_option linter.unusedVariables false
namespace Go.Own
theorem isOp_cases {o : Nat} (h : isOp o = true) : o = 1 ∨ o = 2 ∨ o = 3 ∨ o = 4 ∨ o = 5 ∨ o = 6 ∨ o = 7 ∨ o = 8 ∨ o = 9 ∨ o = 10 ∨ o = 11 ∨ o = 16 ∨ o = 17 ∨ o = 18 ∨ o = 19 ∨ o = 20 ∨ o = 21 ∨ o = 22 ∨ o = 23 ∨ o = 24 ∨ o = 25 ∨ o = 26 ∨ o = 27 ∨ o = 28 ∨ o = 29 := by
  simp only [isOp, Bool.or_eq_true, Bool.and_eq_true, decide_eq_true_eq] at h
  omega
end Go.Own
namespace Go.Proofs.YgcsalGreat
open Go.RowKit Go.Own
theorem wordAlu_all (o : Nat) (xs ys zs : List Nat) (w : World) (ho : isOp o = true) (hx : xs.length = 4) (hy : ys.length = 4) (hz : zs.length = 4) (hLx : Limbs xs) (hLy : Limbs ys) (hLz : Limbs zs) :
    Calls Salg.prog 9 #[.int .u8 o, A64 xs, A64 ys, A64 zs] w fun e w' => e = .returned (.tuple #[A64 (nl 4 (aluN o (lval xs) (lval ys) (lval zs))), .bool true]) ∧ Kept [] w w' := by
  rcases isOp_cases ho with rfl | rfl | rfl | rfl | rfl | rfl | rfl | rfl | rfl | rfl | rfl | rfl | rfl | rfl | rfl | rfl | rfl | rfl | rfl | rfl | rfl | rfl | rfl | rfl | rfl
  · exact wordAlu_1 xs ys zs w hx hy hz hLx hLy hLz
  · exact wordAlu_2 xs ys zs w hx hy hz hLx hLy hLz
  · exact wordAlu_3 xs ys zs w hx hy hz hLx hLy hLz
  · exact wordAlu_4 xs ys zs w hx hy hz hLx hLy hLz
  · exact wordAlu_5 xs ys zs w hx hy hz hLx hLy hLz
  · exact wordAlu_6 xs ys zs w hx hy hz hLx hLy hLz
  · exact wordAlu_7 xs ys zs w hx hy hz hLx hLy hLz
  · exact wordAlu_8 xs ys zs w hx hy hz hLx hLy hLz
  · exact wordAlu_9 xs ys zs w hx hy hz hLx hLy hLz
  · exact wordAlu_10 xs ys zs w hx hy hz hLx hLy hLz
  · exact wordAlu_11 xs ys zs w hx hy hz hLx hLy hLz
  · exact wordAlu_16 xs ys zs w hx hy hz hLx hLy hLz
  · exact wordAlu_17 xs ys zs w hx hy hz hLx hLy hLz
  · exact wordAlu_18 xs ys zs w hx hy hz hLx hLy hLz
  · exact wordAlu_19 xs ys zs w hx hy hz hLx hLy hLz
  · exact wordAlu_20 xs ys zs w hx hy hz hLx hLy hLz
  · exact wordAlu_21 xs ys zs w hx hy hz hLx hLy hLz
  · exact wordAlu_22 xs ys zs w hx hy hz hLx hLy hLz
  · exact wordAlu_23 xs ys zs w hx hy hz hLx hLy hLz
  · exact wordAlu_24 xs ys zs w hx hy hz hLx hLy hLz
  · exact wordAlu_25 xs ys zs w hx hy hz hLx hLy hLz
  · exact wordAlu_26 xs ys zs w hx hy hz hLx hLy hLz
  · exact wordAlu_27 xs ys zs w hx hy hz hLx hLy hLz
  · exact wordAlu_28 xs ys zs w hx hy hz hLx hLy hLz
  · exact wordAlu_29 xs ys zs w hx hy hz hLx hLy hLz
theorem alu_all (o : Nat) (v u t : Value) (X Y Z : Nat) (w : World) (ho : isOp o = true) (hv : NumV w v X) (hu : NumV w u Y) (ht : NumV w t Z) (hX : X < 2 ^ 256) (hY : Y < 2 ^ 256) (hZ : Z < 2 ^ 256) :
    Calls Salg.prog 63 #[.int .u8 o, v, u, t] w fun e w' => ∃ r, e = .returned r ∧ NumV w' r (aluN o X Y Z % 18446744073709551616 ^ 4) ∧ Kept [] w w' := by
  rcases isOp_cases ho with rfl | rfl | rfl | rfl | rfl | rfl | rfl | rfl | rfl | rfl | rfl | rfl | rfl | rfl | rfl | rfl | rfl | rfl | rfl | rfl | rfl | rfl | rfl | rfl | rfl
  · exact alu_1 v u t X Y Z w hv hu ht hX hY hZ
  · exact alu_2 v u t X Y Z w hv hu ht hX hY hZ
  · exact alu_3 v u t X Y Z w hv hu ht hX hY hZ
  · exact alu_4 v u t X Y Z w hv hu ht hX hY hZ
  · exact alu_5 v u t X Y Z w hv hu ht hX hY hZ
  · exact alu_6 v u t X Y Z w hv hu ht hX hY hZ
  · exact alu_7 v u t X Y Z w hv hu ht hX hY hZ
  · exact alu_8 v u t X Y Z w hv hu ht hX hY hZ
  · exact alu_9 v u t X Y Z w hv hu ht hX hY hZ
  · exact alu_10 v u t X Y Z w hv hu ht hX hY hZ
  · exact alu_11 v u t X Y Z w hv hu ht hX hY hZ
  · exact alu_16 v u t X Y Z w hv hu ht hX hY hZ
  · exact alu_17 v u t X Y Z w hv hu ht hX hY hZ
  · exact alu_18 v u t X Y Z w hv hu ht hX hY hZ
  · exact alu_19 v u t X Y Z w hv hu ht hX hY hZ
  · exact alu_20 v u t X Y Z w hv hu ht hX hY hZ
  · exact alu_21 v u t X Y Z w hv hu ht hX hY hZ
  · exact alu_22 v u t X Y Z w hv hu ht hX hY hZ
  · exact alu_23 v u t X Y Z w hv hu ht hX hY hZ
  · exact alu_24 v u t X Y Z w hv hu ht hX hY hZ
  · exact alu_25 v u t X Y Z w hv hu ht hX hY hZ
  · exact alu_26 v u t X Y Z w hv hu ht hX hY hZ
  · exact alu_27 v u t X Y Z w hv hu ht hX hY hZ
  · exact alu_28 v u t X Y Z w hv hu ht hX hY hZ
  · by_cases hn : 2 ^ 255 ≤ Y
    · exact alu_29b v u t X Y Z w hv hu ht hX hY hZ hn
    · exact alu_29a v u t X Y Z w hv hu ht hX hY hZ hn
end Go.Proofs.YgcsalGreat

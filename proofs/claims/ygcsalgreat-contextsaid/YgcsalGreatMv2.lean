/-
  The walks of law.addrNo, law.sender, law.StageEnv, law.toA1.
-/
import Derived.Test.YgcsalGreatMv1
set_option linter.unusedSimpArgs false
set_option linter.unusedVariables false
namespace Go.Own
/-- The address of number n. -/
def ad (n : Nat) : List Nat := [0, 0, 0, 0, 0, 0, 0, 0, 0, 0, 0, 0, 0, 0, 0, 0, 0, 0, 0, n]
def z8 (n : Nat) : List Value := List.replicate n (n8 0)
abbrev nilS : Value := .slice none 0 0
def envL : List Value := (ad 192).map n8 ++ [n64 0, n64 0, n64 1048576] ++ z8 96 ++ [nilS]
def txL : List Value := (ad 240).map n8 ++ (ad 1).map n8 ++ [.bool false, n64 0, n64 200000] ++ z8 64 ++ [nilS, .bool false] ++ z8 64 ++ [nilS]
theorem oneL {l : List Value} (h : (l.all fun u => u.oneCell') = true) : ∀ u ∈ l.toArray.toList, u.oneCell' = true := by
  intro u hu
  exact List.all_eq_true.1 h u (by simpa using hu)
end Go.Own
namespace Go.Proofs.YgcsalGreat
open Go.RowKit Go.Own
theorem size45 : (Salg.prog.info? 45).map (·.size) = some 20 := by kernel_rfl
theorem zero45 : ((Salg.prog.info? 45).bind (·.zero)) = some (A8 (List.replicate 20 0)) := by kernel_rfl
theorem size106 : (Salg.prog.info? 106).map (·.size) = some 120 := by kernel_rfl
theorem zero106 : ((Salg.prog.info? 106).bind (·.zero)) = some (.agg (z8 20 ++ [n64 0, n64 0, n64 0] ++ z8 96 ++ [nilS]).toArray) := by kernel_rfl
theorem size49 : (Salg.prog.info? 49).map (·.size) = some 174 := by kernel_rfl
theorem zero49 : ((Salg.prog.info? 49).bind (·.zero)) = some (.agg (z8 40 ++ [.bool false, n64 0, n64 0] ++ z8 64 ++ [nilS, .bool false] ++ z8 64 ++ [nilS]).toArray) := by kernel_rfl

set_option maxHeartbeats 2000000 in
set_option maxRecDepth 100000 in
theorem addrNo_any (n : Nat) (w : World) : Calls Salg.prog 82 #[.int .u8 n] w fun e w' => e = .returned (A8 (ad n)) ∧ Kept [] w w' := by
  have M := Mem.start w []
  go_enter Salg.func82, Salg.ntmps82
  go_wp2_with (first
    | ((with_reducible apply L_allocA (d := 2) M); exact zero45; clear M; intro c1 w1 hc1 M; simp only [Act.put, List.setIfInBounds_toArray, List.set_cons_zero, List.set_cons_succ])
    | ((with_reducible apply W_storeK (b := c1) (vs := ((ad n).map n8).toArray)); rfl; rfl; exact M.r0; exact size45; (first | rfl | simp []); exact one8 _; intro w3 K hr3; replace M := Mem.callPut (L1 := []) M (Or.inr (by assumption)) K hr3; clear K hr3; simp only [List.cons_append, List.nil_append] at M))
  exact ret_cell1 Salg.results82 rfl M.r0 Salg.underlying45 rfl size45 rfl ⟨rfl, M.kept⟩

set_option maxHeartbeats 2000000 in
set_option maxRecDepth 100000 in
theorem sender_any (w : World) : Calls Salg.prog 83 #[] w fun e w' => e = .returned (A8 (ad 240)) ∧ Kept [] w w' := by
  have M := Mem.start w []
  have HC := hid (fun w => addrNo_any 240 w)
  generalize had : ad 240 = l at *
  have hl : l.length = 20 := by rw [← had]; rfl
  clear had
  go_enter Salg.func83, Salg.ntmps83
  go_wp2_with ((with_reducible apply L_allocA (d := 0) M); exact zero45; clear M; intro c1 w1 hc1 M; simp only [Act.put, List.setIfInBounds_toArray, List.set_cons_zero, List.set_cons_succ])
  refine (HC.out _).mono ?_
  rintro e w2 ⟨rfl, K⟩
  replace M := M.call K
  clear K HC
  go_wp2_with ((with_reducible apply W_storeK (b := c1)); rfl; rfl; exact M.r0; exact size45; (first | rfl | simp [hl]); exact one8 _; intro w3 K hr3; replace M := Mem.callPut (L1 := []) M (Or.inr (by assumption)) K hr3; clear K hr3; simp only [List.cons_append, List.nil_append] at M)
  exact ret_cell1 Salg.results83 rfl M.r0 Salg.underlying45 rfl (by rw [size45]; simp [hl]) rfl ⟨rfl, M.kept⟩

set_option maxHeartbeats 2000000 in
set_option maxRecDepth 100000 in
theorem stageEnv_any (w : World) : Calls Salg.prog 81 #[] w fun e w' => e = .returned (.agg envL.toArray) ∧ Kept [] w w' := by
  have M := Mem.start w []
  have HC := hid (fun w => addrNo_any 192 w)
  go_enter Salg.func81, Salg.ntmps81
  go_wp2_with ((with_reducible apply L_allocA (d := 0) M); exact zero106; clear M; intro c1 w1 hc1 M; simp only [Act.put, List.setIfInBounds_toArray, List.set_cons_zero, List.set_cons_succ])
  refine (HC.out _).mono ?_
  rintro e w2 ⟨rfl, K⟩
  replace M := M.call K
  clear K HC
  go_wp2_with ((with_reducible apply W_storeK (b := c1) (vs := (envL).toArray)); rfl; exact congrArg Value.agg (by kernel_rfl); exact M.r0; exact size106; rfl; exact oneL rfl; intro w3 K hr3; replace M := Mem.callPut (L1 := []) M (Or.inr (by assumption)) K hr3; clear K hr3; simp only [List.cons_append, List.nil_append] at M)
  exact ret_cell1 Salg.results81 rfl M.r0 Salg.underlying106 rfl size106 rfl ⟨rfl, M.kept⟩

set_option maxHeartbeats 2000000 in
set_option maxRecDepth 100000 in
theorem toA1_any (w : World) : Calls Salg.prog 17 #[] w fun e w' => e = .returned (.agg txL.toArray) ∧ Kept [] w w' := by
  have M := Mem.start w []
  have HS := hid (fun w => sender_any w)
  have HC := hid (fun w => addrNo_any 1 w)
  go_enter Salg.func17, Salg.ntmps17
  go_wp2_with ((with_reducible apply L_allocA (d := 0) M); exact zero49; clear M; intro c1 w1 hc1 M; simp only [Act.put, List.setIfInBounds_toArray, List.set_cons_zero, List.set_cons_succ])
  refine (HS.out _).mono ?_
  rintro e w2 ⟨rfl, K⟩
  replace M := M.call K
  clear K HS
  go_wp2_with fail
  refine (HC.out _).mono ?_
  rintro e w3 ⟨rfl, K⟩
  replace M := M.call K
  clear K HC
  go_wp2_with ((with_reducible apply W_storeK (b := c1) (vs := (txL).toArray)); rfl; exact congrArg Value.agg (by kernel_rfl); exact M.r0; exact size49; rfl; exact oneL rfl; intro w3 K hr3; replace M := Mem.callPut (L1 := []) M (Or.inr (by assumption)) K hr3; clear K hr3; simp only [List.cons_append, List.nil_append] at M)
  exact ret_cell1 Salg.results17 rfl M.r0 Salg.underlying49 rfl size49 rfl ⟨rfl, M.kept⟩
end Go.Proofs.YgcsalGreat

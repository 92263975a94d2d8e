/-
  The walk of law.refinesHolds, where it holds.
-/
import Derived.Test.YgcsalGreatCalls
import Derived.Test.YgcsalGreatAll
import Derived.Test.YgcsalGreatFromBE
import Derived.Test.YgcsalGreatIsNat
set_option linter.unusedSimpArgs false
namespace Go.Proofs.YgcsalGreat
open Go.RowKit Go.Own
theorem be_lt {bs : List Nat} (h : bs.length = 32) (hs : Small bs) : be bs < 2 ^ 256 := by
  have := be_small_lt hs
  rw [h] at this
  exact Nat.lt_of_lt_of_le this (by decide)
theorem guard89 : Salg.prog.eqGuardType Salg.prog.depth 89 = false := by kernel_rfl
theorem nil_nil (w : World) : (binOp .eql 89 (.slice none 0 0) (.slice none 0 0)).run Salg.prog w = .ok (.bool true) w := by kernel_rfl
theorem run_nilnil {a : Act} {w : World} {dst : Option Tmp} {x y : Operand} {ty ty' : TypeId} {pos : String} {after : Array Edge} {g : Option (Nat × Bool)} (hx : a.eval x = .slice none 0 0) (hy : a.eval y = .slice none 0 0) :
    (execOp a.eval { dst := dst, op := .binOp .eql 89 x y ty, type := ty', pos := pos, after := after, guard := g }).run Salg.prog w = .ok (.value (.bool true)) w := by
  have hg : (eqGuard .eql 89 x y (.slice none 0 0) (.slice none 0 0)).run Salg.prog w = .ok () w := by simp [eqGuard, Go.program, Sem.run, guard89]
  simp [execOp, hx, hy, nil_nil, hg]
theorem fromBE32 (b : Nat) (bs : List Nat) (h : bs.length = 32) (hs : Small bs) (w : World) (hr : w.heap[b]? = some (R8 22 bs)) :
    Calls Salg.prog 64 #[.slice (some ⟨b, 0, none⟩) 32 32] w fun e w' => ∃ u, e = .returned u ∧ NumV w' u (be bs) ∧ Kept [] w w' := by
  have := fromBE_any b 22 bs w hr (by omega) hs
  rwa [h] at this

set_option maxHeartbeats 2000000 in
set_option maxRecDepth 100000 in
theorem refinesHolds_yes (o : Nat) (ba bb bc ws : List Nat) (w : World) (ha : ba.length = 32) (hb : bb.length = 32) (hc : bc.length = 32) (hsa : Small ba) (hsb : Small bb) (hsc : Small bc) (ho : isOp o = true) (hw : ws.length = 4) (hL : Limbs ws) (hv : lval ws = aluN o (be ba) (be bb) (be bc) % 18446744073709551616 ^ 4) :
    Calls Salg.prog 10 #[.int .u8 o, A8 ba, A8 bb, A8 bc, A64 ws, .bool true] w fun e w' => e = .returned (.bool true) ∧ Kept [] w w' := by
  have M := Mem.start w []
  have HA := hid (fun b w => fromBE32 b ba ha hsa w)
  have HB := hid (fun b w => fromBE32 b bb hb hsb w)
  have HCC := hid (fun b w => fromBE32 b bc hc hsc w)
  have hA := hid (be_lt ha hsa)
  have hB := hid (be_lt hb hsb)
  have hC := hid (be_lt hc hsc)
  have HO := hid ho
  clear hsa hsb hsc ho
  have HL := hid hL
  have HV := hid hv
  clear hL hv
  go_enter Salg.func10, Salg.ntmps10
  go_wp2_with (first
    | ((with_reducible apply L_box (d := 7) M); rfl; clear M; intro c1 w1 hc1 M; simp only [Act.put, List.setIfInBounds_toArray, List.set_cons_zero, List.set_cons_succ])
    | ((with_reducible apply L_box (d := 8) M); rfl; clear M; intro c2 w1 hc2 M; simp only [Act.put, List.setIfInBounds_toArray, List.set_cons_zero, List.set_cons_succ])
    | ((with_reducible apply L_box (d := 9) M); rfl; clear M; intro c3 w1 hc3 M; simp only [Act.put, List.setIfInBounds_toArray, List.set_cons_zero, List.set_cons_succ])
    | ((with_reducible apply L_box (d := 10) M); rfl; clear M; intro c4 w1 hc4 M; simp only [Act.put, List.setIfInBounds_toArray, List.set_cons_zero, List.set_cons_succ]))
  refine S_region (by kernel_rfl) ?_
  replace M := M.drew
  refine C_region [0, 1, 3, 5, 2, 4, 6, 7, 8] (by kernel_rfl) M ?_
  simp only [List.filterMap_cons, List.filterMap_nil, List.getElem?_cons_zero, List.getElem?_cons_succ]
  ((with_reducible apply C_run); rfl; rfl; (intro w M; go_simp; (try go_ints); (try simp only [↓IntWalk.iteOmega]); (try with_reducible rfl)); simp only [Act.put, List.setIfInBounds_toArray, List.set_cons_zero, List.set_cons_succ])
  ((with_reducible apply C_run); rfl; rfl; (intro w M; exact run_sliceArr (l := 0) (h := 32) (m := 32) rfl Salg.underlying22 size5 (by (first | exact Or.inl ⟨rfl, rfl⟩ | exact Or.inr ⟨_, _, _, rfl, rfl, by omega⟩)) (by (first | exact Or.inl ⟨rfl, rfl⟩ | exact Or.inr ⟨_, _, _, rfl, rfl, by omega⟩)) (by (first | exact Or.inl ⟨rfl, rfl⟩ | exact Or.inr ⟨_, _, _, rfl, rfl, by omega⟩)) (by first | exact Or.inl rfl | exact Or.inr rfl) (by omega) (by omega) (by omega) (by omega)); (try simp only [Nat.zero_add, Nat.sub_zero]); simp only [Act.put, List.setIfInBounds_toArray, List.set_cons_zero, List.set_cons_succ])
  ((with_reducible apply C_run); rfl; rfl; (intro w M; exact run_sliceArr (l := 0) (h := 32) (m := 32) rfl Salg.underlying22 size5 (by (first | exact Or.inl ⟨rfl, rfl⟩ | exact Or.inr ⟨_, _, _, rfl, rfl, by omega⟩)) (by (first | exact Or.inl ⟨rfl, rfl⟩ | exact Or.inr ⟨_, _, _, rfl, rfl, by omega⟩)) (by (first | exact Or.inl ⟨rfl, rfl⟩ | exact Or.inr ⟨_, _, _, rfl, rfl, by omega⟩)) (by first | exact Or.inl rfl | exact Or.inr rfl) (by omega) (by omega) (by omega) (by omega)); (try simp only [Nat.zero_add, Nat.sub_zero]); simp only [Act.put, List.setIfInBounds_toArray, List.set_cons_zero, List.set_cons_succ])
  ((with_reducible apply C_run); rfl; rfl; (intro w M; exact run_sliceArr (l := 0) (h := 32) (m := 32) rfl Salg.underlying22 size5 (by (first | exact Or.inl ⟨rfl, rfl⟩ | exact Or.inr ⟨_, _, _, rfl, rfl, by omega⟩)) (by (first | exact Or.inl ⟨rfl, rfl⟩ | exact Or.inr ⟨_, _, _, rfl, rfl, by omega⟩)) (by (first | exact Or.inl ⟨rfl, rfl⟩ | exact Or.inr ⟨_, _, _, rfl, rfl, by omega⟩)) (by first | exact Or.inl rfl | exact Or.inr rfl) (by omega) (by omega) (by omega) (by omega)); (try simp only [Nat.zero_add, Nat.sub_zero]); simp only [Act.put, List.setIfInBounds_toArray, List.set_cons_zero, List.set_cons_succ])
  refine C_call rfl Salg.func64 (by kernel_rfl) (by kernel_rfl) (args := [.slice (some ⟨c1, 0, none⟩) 32 32]) rfl ?_
  refine (HA.out _ _ M.r3).mono ?_
  rintro e w2 ⟨N1, rfl, xHN1, K⟩
  have HN1 := hid xHN1
  replace M := M.call K
  clear K xHN1
  refine ⟨_, rfl, M, ?_⟩
  simp only [Act.put, List.setIfInBounds_toArray, List.set_cons_zero, List.set_cons_succ]
  refine C_call rfl Salg.func64 (by kernel_rfl) (by kernel_rfl) (args := [.slice (some ⟨c2, 0, none⟩) 32 32]) rfl ?_
  refine (HB.out _ _ M.r2).mono ?_
  rintro e w3 ⟨N2, rfl, xHN2, K⟩
  have HN2 := hid xHN2
  replace HN1 := hid (HN1.out.kept K)
  replace M := M.call K
  clear K xHN2
  refine ⟨_, rfl, M, ?_⟩
  simp only [Act.put, List.setIfInBounds_toArray, List.set_cons_zero, List.set_cons_succ]
  refine C_call rfl Salg.func64 (by kernel_rfl) (by kernel_rfl) (args := [.slice (some ⟨c3, 0, none⟩) 32 32]) rfl ?_
  refine (HCC.out _ _ M.r1).mono ?_
  rintro e w4 ⟨N3, rfl, xHN3, K⟩
  have HN3 := hid xHN3
  replace HN1 := hid (HN1.out.kept K)
  replace HN2 := hid (HN2.out.kept K)
  replace M := M.call K
  clear K xHN3
  refine ⟨_, rfl, M, ?_⟩
  simp only [Act.put, List.setIfInBounds_toArray, List.set_cons_zero, List.set_cons_succ]
  refine C_call rfl Salg.func63 (by kernel_rfl) (by kernel_rfl) (args := [.int .u8 o, N1, N2, N3]) rfl ?_
  refine (alu_all o _ _ _ _ _ _ _ HO.out HN1.out HN2.out HN3.out hA.out hB.out hC.out).mono ?_
  rintro e w5 ⟨R1, rfl, xHR, K⟩
  have HR := hid xHR
  replace M := M.call K
  clear K xHR
  refine ⟨_, rfl, M, ?_⟩
  simp only [Act.put, List.setIfInBounds_toArray, List.set_cons_zero, List.set_cons_succ]
  rw [← HV.out] at HR
  ((with_reducible apply C_run); rfl; rfl; (intro w M; go_simp; (try go_ints); (try simp only [↓IntWalk.iteOmega]); (try with_reducible rfl)); simp only [Act.put, List.setIfInBounds_toArray, List.set_cons_zero, List.set_cons_succ])
  refine C_nil ?_
  intro _
  go_wp2_with ((with_reducible apply W_loadAll); rfl; (first | with_reducible exact M.r0 | with_reducible exact M.r1 | with_reducible exact M.r2 | with_reducible exact M.r3 | with_reducible exact M.r4 | with_reducible exact M.r5 | with_reducible exact M.r6 | assumption | exact M.kept.row (by assumption) (by simp)); exact Salg.underlying25; rfl; (first | with_reducible exact size25 | (rw [size25]; simp [hw])); simp only [Act.put, List.setIfInBounds_toArray, List.set_cons_zero, List.set_cons_succ])
  refine (isNat_yes ws _ _ hw HL.out HR.out).mono ?_
  rintro e w6 ⟨rfl, K⟩
  replace M := M.call K
  go_wp2_with fail
  go_ret
  exact ⟨rfl, M.kept⟩

set_option maxHeartbeats 2000000 in
set_option maxRecDepth 100000 in
theorem refinesHolds_no (o : Nat) (ba bb bc ws : List Nat) (w : World) (ha : ba.length = 32) (hb : bb.length = 32) (hc : bc.length = 32) (hsa : Small ba) (hsb : Small bb) (hsc : Small bc) (ho : isOp o = false) (ho2 : o < 256) :
    Calls Salg.prog 10 #[.int .u8 o, A8 ba, A8 bb, A8 bc, A64 ws, .bool false] w fun e w' => e = .returned (.bool true) ∧ Kept [] w w' := by
  have M := Mem.start w []
  have HA := hid (fun b w => fromBE32 b ba ha hsa w)
  have HB := hid (fun b w => fromBE32 b bb hb hsb w)
  have HCC := hid (fun b w => fromBE32 b bc hc hsc w)
  have hA := hid (be_lt ha hsa)
  have hB := hid (be_lt hb hsb)
  have hC := hid (be_lt hc hsc)
  have HO := hid ho
  clear hsa hsb hsc ho
  go_enter Salg.func10, Salg.ntmps10
  go_wp2_with (first
    | ((with_reducible apply L_box (d := 7) M); rfl; clear M; intro c1 w1 hc1 M; simp only [Act.put, List.setIfInBounds_toArray, List.set_cons_zero, List.set_cons_succ])
    | ((with_reducible apply L_box (d := 8) M); rfl; clear M; intro c2 w1 hc2 M; simp only [Act.put, List.setIfInBounds_toArray, List.set_cons_zero, List.set_cons_succ])
    | ((with_reducible apply L_box (d := 9) M); rfl; clear M; intro c3 w1 hc3 M; simp only [Act.put, List.setIfInBounds_toArray, List.set_cons_zero, List.set_cons_succ])
    | ((with_reducible apply L_box (d := 10) M); rfl; clear M; intro c4 w1 hc4 M; simp only [Act.put, List.setIfInBounds_toArray, List.set_cons_zero, List.set_cons_succ]))
  refine S_region (by kernel_rfl) ?_
  replace M := M.drew
  refine C_region [0, 1, 3, 5, 2, 4, 6, 7, 8] (by kernel_rfl) M ?_
  simp only [List.filterMap_cons, List.filterMap_nil, List.getElem?_cons_zero, List.getElem?_cons_succ]
  ((with_reducible apply C_run); rfl; rfl; (intro w M; go_simp; (try go_ints); (try simp only [↓IntWalk.iteOmega]); (try with_reducible rfl)); simp only [Act.put, List.setIfInBounds_toArray, List.set_cons_zero, List.set_cons_succ])
  ((with_reducible apply C_run); rfl; rfl; (intro w M; exact run_sliceArr (l := 0) (h := 32) (m := 32) rfl Salg.underlying22 size5 (by (first | exact Or.inl ⟨rfl, rfl⟩ | exact Or.inr ⟨_, _, _, rfl, rfl, by omega⟩)) (by (first | exact Or.inl ⟨rfl, rfl⟩ | exact Or.inr ⟨_, _, _, rfl, rfl, by omega⟩)) (by (first | exact Or.inl ⟨rfl, rfl⟩ | exact Or.inr ⟨_, _, _, rfl, rfl, by omega⟩)) (by first | exact Or.inl rfl | exact Or.inr rfl) (by omega) (by omega) (by omega) (by omega)); (try simp only [Nat.zero_add, Nat.sub_zero]); simp only [Act.put, List.setIfInBounds_toArray, List.set_cons_zero, List.set_cons_succ])
  ((with_reducible apply C_run); rfl; rfl; (intro w M; exact run_sliceArr (l := 0) (h := 32) (m := 32) rfl Salg.underlying22 size5 (by (first | exact Or.inl ⟨rfl, rfl⟩ | exact Or.inr ⟨_, _, _, rfl, rfl, by omega⟩)) (by (first | exact Or.inl ⟨rfl, rfl⟩ | exact Or.inr ⟨_, _, _, rfl, rfl, by omega⟩)) (by (first | exact Or.inl ⟨rfl, rfl⟩ | exact Or.inr ⟨_, _, _, rfl, rfl, by omega⟩)) (by first | exact Or.inl rfl | exact Or.inr rfl) (by omega) (by omega) (by omega) (by omega)); (try simp only [Nat.zero_add, Nat.sub_zero]); simp only [Act.put, List.setIfInBounds_toArray, List.set_cons_zero, List.set_cons_succ])
  ((with_reducible apply C_run); rfl; rfl; (intro w M; exact run_sliceArr (l := 0) (h := 32) (m := 32) rfl Salg.underlying22 size5 (by (first | exact Or.inl ⟨rfl, rfl⟩ | exact Or.inr ⟨_, _, _, rfl, rfl, by omega⟩)) (by (first | exact Or.inl ⟨rfl, rfl⟩ | exact Or.inr ⟨_, _, _, rfl, rfl, by omega⟩)) (by (first | exact Or.inl ⟨rfl, rfl⟩ | exact Or.inr ⟨_, _, _, rfl, rfl, by omega⟩)) (by first | exact Or.inl rfl | exact Or.inr rfl) (by omega) (by omega) (by omega) (by omega)); (try simp only [Nat.zero_add, Nat.sub_zero]); simp only [Act.put, List.setIfInBounds_toArray, List.set_cons_zero, List.set_cons_succ])
  refine C_call rfl Salg.func64 (by kernel_rfl) (by kernel_rfl) (args := [.slice (some ⟨c1, 0, none⟩) 32 32]) rfl ?_
  refine (HA.out _ _ M.r3).mono ?_
  rintro e w2 ⟨N1, rfl, xHN1, K⟩
  have HN1 := hid xHN1
  replace M := M.call K
  clear K xHN1
  refine ⟨_, rfl, M, ?_⟩
  simp only [Act.put, List.setIfInBounds_toArray, List.set_cons_zero, List.set_cons_succ]
  refine C_call rfl Salg.func64 (by kernel_rfl) (by kernel_rfl) (args := [.slice (some ⟨c2, 0, none⟩) 32 32]) rfl ?_
  refine (HB.out _ _ M.r2).mono ?_
  rintro e w3 ⟨N2, rfl, xHN2, K⟩
  have HN2 := hid xHN2
  replace HN1 := hid (HN1.out.kept K)
  replace M := M.call K
  clear K xHN2
  refine ⟨_, rfl, M, ?_⟩
  simp only [Act.put, List.setIfInBounds_toArray, List.set_cons_zero, List.set_cons_succ]
  refine C_call rfl Salg.func64 (by kernel_rfl) (by kernel_rfl) (args := [.slice (some ⟨c3, 0, none⟩) 32 32]) rfl ?_
  refine (HCC.out _ _ M.r1).mono ?_
  rintro e w4 ⟨N3, rfl, xHN3, K⟩
  have HN3 := hid xHN3
  replace HN1 := hid (HN1.out.kept K)
  replace HN2 := hid (HN2.out.kept K)
  replace M := M.call K
  clear K xHN3
  refine ⟨_, rfl, M, ?_⟩
  simp only [Act.put, List.setIfInBounds_toArray, List.set_cons_zero, List.set_cons_succ]
  refine C_call rfl Salg.func63 (by kernel_rfl) (by kernel_rfl) (args := [.int .u8 o, N1, N2, N3]) rfl ?_
  refine (alu_none o _ _ _ _ HO.out ho2).mono ?_
  rintro e w5 ⟨rfl, rfl⟩
  refine ⟨_, rfl, M, ?_⟩
  simp only [Act.put, List.setIfInBounds_toArray, List.set_cons_zero, List.set_cons_succ]
  ((with_reducible apply C_run); rfl; rfl; (intro w M; go_simp; (try go_ints); (try simp only [↓IntWalk.iteOmega]); (try with_reducible rfl)); simp only [Act.put, List.setIfInBounds_toArray, List.set_cons_zero, List.set_cons_succ])
  refine C_nil ?_
  intro _
  go_wp2_with ((with_reducible apply L_run); rfl; exact run_nilnil rfl rfl; simp only [Act.put, List.setIfInBounds_toArray, List.set_cons_zero, List.set_cons_succ])
  go_ret
  exact ⟨rfl, M.kept⟩
end Go.Proofs.YgcsalGreat

/-
  The walk of law.contextWay: kind 7.
-/
import Derived.Test.YgcsalGreatCx39
set_option linter.unusedSimpArgs false
set_option linter.unusedVariables false
namespace Go.Own
open Go.Proofs Go.Proofs.YgcsalGreat
def IsProbe (w : World) (q : Nat) : Prop := w.heap[q]? = some (R8 5 probeL)
theorem isProbe {w : World} {q : Nat} (h : w.heap[q]? = some (R8 5 probeL)) : IsProbe w q := h
theorem IsProbe.kept {w w' : World} {q : Nat} (h : IsProbe w q) (k : Kept [] w w') : IsProbe w' q := k.row h (by simp)
theorem IsProbe.keptC {w w' : World} {q c tc : Nat} {cs : Array Value} (h : IsProbe w q) (k : Kept [c] w w') (hr : w.heap[c]? = some (.cells cs tc (0, 0))) (ht : tc ≠ 5) : IsProbe w' q := by
  refine k.row h ?_
  intro hm
  simp only [List.mem_singleton] at hm
  subst hm
  unfold IsProbe at h
  rw [hr] at h
  cases h
  exact ht rfl
end Go.Own
namespace Go.Proofs.YgcsalGreat
open Go.RowKit Go.Own
theorem made7 (w : World) : Calls Salg.prog 108 #[A8 (ad 240), .int .u64 0] w fun e w' => e = .returned (A8 ha7) ∧ Kept [] w w' := by
  have h := madeBy_0 (ad 240) w rfl (ad_ok 240 (by decide)).hs
  rw [hadr7] at h
  exact h
theorem made6 (w : World) : Calls Salg.prog 108 #[A8 (ad 1), .int .u64 1] w fun e w' => e = .returned (A8 ha6) ∧ Kept [] w w' := by
  have h := madeBy_1 (ad 1) w rfl (ad_ok 1 (by decide)).hs
  rw [hadr6] at h
  exact h
theorem info40 : (Salg.prog.info? 40).map (fun i => (i.zero, i.size, i.bytes)) = some (some (.slice none 0 0), 1, 24) := by kernel_rfl
theorem size42 : (Salg.prog.info? 42).map (·.size) = some 1 := by kernel_rfl

set_option maxHeartbeats 4000000 in
set_option maxRecDepth 100000 in
theorem way_7 (tv v : Nat) (w : World) : Calls Salg.prog 26 #[.int .u8 7, n8 tv, n8 v] w fun e w' => ∃ cs qb, e = .returned (.agg (rwL cs 1 true tv (.slice (some ⟨qb, 0, none⟩) 19 19) ha7 (ad 240) tv 0 false).toArray) ∧ Codes2 w' cs [] probeL ∧ IsProbe w' qb ∧ Kept [] w w' := by
  have M := Mem.start w []
  go_enter Salg.func26, Salg.ntmps26
  go_wp2_with ((with_reducible apply L_allocA (d := 6) M); exact zero69; clear M; intro t6 w1 ht6 M; simp only [Act.put, List.setIfInBounds_toArray, List.set_cons_zero, List.set_cons_succ])
  refine (probe_lit _).mono ?_
  rintro e w2 ⟨pb, rfl, xP, xN, K⟩
  have h6p : t6 < pb := Nat.lt_of_lt_of_le (lt_of_row M.r0) xN
  replace M := (M.call K).add xP (by intro p hp; simp at hp; subst hp; exact Nat.ne_of_gt h6p)
  clear K xP xN h6p
  go_wp2_with ((with_reducible apply W_buildN (vs := #[nilS, .slice (some ⟨pb, 0, none⟩) 19 19]) (e := 40) M); kernel_rfl; clear M; intro b w3 hb hb2 KB M; clear KB hb2; simp only [Act.put, List.setIfInBounds_toArray, List.set_cons_zero, List.set_cons_succ])
  refine (toA1_any _).mono ?_
  rintro e w2 ⟨rfl, K⟩
  replace M := M.call K
  clear K
  go_wp2_with fail
  refine (addrNo_any 2 _).mono ?_
  rintro e w2 ⟨rfl, K⟩
  replace M := M.call K
  clear K
  go_wp2_with fail
  refine (addrNo_any 1 _).mono ?_
  rintro e w2 ⟨rfl, K⟩
  replace M := M.call K
  clear K
  go_wp2_with (first
    | ((with_reducible apply W_buildV (v := .agg (rwL (.slice (some ⟨b, 0, none⟩) 2 2) 1 false 0 nilS (ad 2) (ad 1) 0 1 false).toArray)); kernel_rfl; simp only [Act.put, List.setIfInBounds_toArray, List.set_cons_zero, List.set_cons_succ])
    | ((with_reducible apply L_allocA (d := 7) M); exact zero69; clear M; intro t7 w1 ht7 M; simp only [Act.put, List.setIfInBounds_toArray, List.set_cons_zero, List.set_cons_succ])
    | ((with_reducible apply W_storeK (b := t7) (vs := (rwL (.slice (some ⟨b, 0, none⟩) 2 2) 1 false 0 nilS (ad 2) (ad 1) 0 1 false).toArray)); rfl; rfl; exact M.r0; exact size69Z; kernel_rfl; exact oneT (rwL_one _ _ _ _ _ _ _ _ _ _ rfl rfl); intro w5 K hr3; replace M := Mem.callPut (L1 := []) M (Or.inr ht7) K hr3; clear K hr3; simp only [List.cons_append, List.nil_append] at M)
    | ((with_reducible apply W_stP (b := t7) (o := 107) (n := 1) (v := n8 tv) (rs := (rwL (.slice (some ⟨b, 0, none⟩) 2 2) 1 false tv nilS (ad 2) (ad 1) 0 1 false).toArray)); rfl; rfl; exact M.r0; exact size5; kernel_rfl; exact oneL (l := [n8 tv]) rfl; exact Nat.le_of_ble_eq_true (by kernel_rfl); kernel_rfl; intro w5 K hr3; replace M := Mem.callPut (L1 := []) M (Or.inr ht7) K hr3; clear K hr3; simp only [List.cons_append, List.nil_append] at M)
    | ((with_reducible apply W_stP (b := t7) (o := 41) (n := 1) (v := .bool true) (rs := (rwL (.slice (some ⟨b, 0, none⟩) 2 2) 1 true tv nilS (ad 2) (ad 1) 0 1 false).toArray)); rfl; rfl; exact M.r0; exact size4; kernel_rfl; exact oneL (l := [.bool true]) rfl; exact Nat.le_of_ble_eq_true (by kernel_rfl); kernel_rfl; intro w5 K hr3; replace M := Mem.callPut (L1 := []) M (Or.inr ht7) K hr3; clear K hr3; simp only [List.cons_append, List.nil_append] at M))
  refine (probe_lit _).mono ?_
  rintro e w2 ⟨qb, rfl, xP, xN, K⟩
  have HQ := hid (isProbe xP)
  replace M := M.call K
  clear K xP xN
  go_wp2_with ((with_reducible apply W_stP (b := t7) (o := 108) (n := 1) (v := .slice (some ⟨qb, 0, none⟩) 19 19) (rs := (rwL (.slice (some ⟨b, 0, none⟩) 2 2) 1 true tv (.slice (some ⟨qb, 0, none⟩) 19 19) (ad 2) (ad 1) 0 1 false).toArray)); rfl; rfl; exact M.r0; exact size40; kernel_rfl; exact oneL (l := [.slice (some ⟨qb, 0, none⟩) 19 19]) rfl; exact Nat.le_of_ble_eq_true (by kernel_rfl); kernel_rfl; intro w5 K hr3; replace HQ := hid (HQ.out.keptC K M.r0 (by decide)); replace M := Mem.callPut (L1 := []) M (Or.inr ht7) K hr3; clear K hr3; simp only [List.cons_append, List.nil_append] at M)
  refine (sender_any _).mono ?_
  rintro e w2 ⟨rfl, K⟩
  replace HQ := hid (HQ.out.kept K)
  replace M := M.call K
  clear K
  go_wp2_with fail
  refine (made7 _).mono ?_
  rintro e w2 ⟨rfl, K⟩
  replace HQ := hid (HQ.out.kept K)
  replace M := M.call K
  clear K
  go_wp2_with ((with_reducible apply W_stP (b := t7) (o := 175) (n := 20) (v := A8 ha7) (rs := (rwL (.slice (some ⟨b, 0, none⟩) 2 2) 1 true tv (.slice (some ⟨qb, 0, none⟩) 19 19) ha7 (ad 1) 0 1 false).toArray)); rfl; rfl; exact M.r0; exact size45; kernel_rfl; exact oneL rfl; exact Nat.le_of_ble_eq_true (by kernel_rfl); kernel_rfl; intro w5 K hr3; replace HQ := hid (HQ.out.keptC K M.r0 (by decide)); replace M := Mem.callPut (L1 := []) M (Or.inr ht7) K hr3; clear K hr3; simp only [List.cons_append, List.nil_append] at M)
  refine (sender_any _).mono ?_
  rintro e w2 ⟨rfl, K⟩
  replace HQ := hid (HQ.out.kept K)
  replace M := M.call K
  clear K
  go_wp2_with (first
    | ((with_reducible apply W_stP (b := t7) (o := 195) (n := 20) (v := A8 (ad 240)) (rs := (rwL (.slice (some ⟨b, 0, none⟩) 2 2) 1 true tv (.slice (some ⟨qb, 0, none⟩) 19 19) ha7 (ad 240) 0 1 false).toArray)); rfl; rfl; exact M.r0; exact size45; kernel_rfl; exact oneL rfl; exact Nat.le_of_ble_eq_true (by kernel_rfl); kernel_rfl; intro w5 K hr3; replace HQ := hid (HQ.out.keptC K M.r0 (by decide)); replace M := Mem.callPut (L1 := []) M (Or.inr ht7) K hr3; clear K hr3; simp only [List.cons_append, List.nil_append] at M)
    | ((with_reducible apply W_stP (b := t7) (o := 215) (n := 1) (v := n8 tv) (rs := (rwL (.slice (some ⟨b, 0, none⟩) 2 2) 1 true tv (.slice (some ⟨qb, 0, none⟩) 19 19) ha7 (ad 240) tv 1 false).toArray)); rfl; rfl; exact M.r0; exact size5; kernel_rfl; exact oneL (l := [n8 tv]) rfl; exact Nat.le_of_ble_eq_true (by kernel_rfl); kernel_rfl; intro w5 K hr3; replace HQ := hid (HQ.out.keptC K M.r0 (by decide)); replace M := Mem.callPut (L1 := []) M (Or.inr ht7) K hr3; clear K hr3; simp only [List.cons_append, List.nil_append] at M)
    | ((with_reducible apply W_stP (b := t7) (o := 216) (n := 1) (v := n8 0) (rs := (rwL (.slice (some ⟨b, 0, none⟩) 2 2) 1 true tv (.slice (some ⟨qb, 0, none⟩) 19 19) ha7 (ad 240) tv 0 false).toArray)); rfl; rfl; exact M.r0; exact size5; kernel_rfl; exact oneL (l := [n8 0]) rfl; exact Nat.le_of_ble_eq_true (by kernel_rfl); kernel_rfl; intro w5 K hr3; replace HQ := hid (HQ.out.keptC K M.r0 (by decide)); replace M := Mem.callPut (L1 := []) M (Or.inr ht7) K hr3; clear K hr3; simp only [List.cons_append, List.nil_append] at M)
    | ((with_reducible apply W_loadAll); rfl; exact M.r0; exact Salg.underlying69; rfl; exact (size69 _ _ _ _ _ _ _ _ _ _ rfl rfl); simp only [Act.put, List.setIfInBounds_toArray, List.set_cons_zero, List.set_cons_succ])
    | ((with_reducible apply W_storeK (b := t6) (vs := (rwL (.slice (some ⟨b, 0, none⟩) 2 2) 1 true tv (.slice (some ⟨qb, 0, none⟩) 19 19) ha7 (ad 240) tv 0 false).toArray)); rfl; rfl; exact M.r3; exact size69Z; kernel_rfl; exact oneT (rwL_one _ _ _ _ _ _ _ _ _ _ rfl rfl); intro w5 K hr3; replace HQ := hid (HQ.out.keptC K M.r3 (by decide)); replace M := Mem.callPut (L1 := [_, _, _]) M (Or.inr ht6) K hr3; clear K hr3; simp only [List.cons_append, List.nil_append] at M))
  refine ret_cell1 Salg.results26 rfl M.r3 Salg.underlying69 rfl (size69 _ _ _ _ _ _ _ _ _ _ rfl rfl) rfl ?_
  exact ⟨_, qb, rfl, ⟨b, _, _, rfl, M.r1, .inl ⟨rfl, rfl⟩, code_probe M.r2⟩, HQ.out, M.kept⟩
end Go.Proofs.YgcsalGreat

/-
  The walk of law.contextWay: kinds 4, 5.
-/
import Derived.Test.YgcsalGreatCx41
set_option linter.unusedSimpArgs false
set_option linter.unusedVariables false
namespace Go.Own
open Go.Proofs Go.Proofs.YgcsalGreat
def IsCodes (w : World) (b : Nat) (cs : Array Value) : Prop := w.heap[b]? = some (.cells cs 40 (0, 0))
theorem isCodes {w : World} {b : Nat} {cs : Array Value} (h : w.heap[b]? = some (.cells cs 40 (0, 0))) : IsCodes w b cs := h
theorem IsCodes.kept {w w' : World} {q : Nat} {cs : Array Value} (h : IsCodes w q cs) (k : Kept [] w w') : IsCodes w' q cs := k.row h (by simp)
theorem rows_apart {w : World} {b c t t' : Nat} {cs ds : Array Value} {f f' : Nat × Nat} (h : w.heap[b]? = some (.cells cs t f)) (h' : w.heap[c]? = some (.cells ds t' f')) (hn : t ≠ t') : b ≠ c := by
  intro e
  subst e
  rw [h] at h'
  cases h'
  exact hn rfl
theorem own_ge {w : World} {base e s n : Nat} {g : Nat} {k cap : Nat} {xs : List Value} (h : w.ownsRow base e s (.slice (some ⟨g, 0, none⟩) k cap) n xs) : base ≤ g := (own_block h rfl).1
theorem set2_0 (cur : Array Value) (u : Value) : (cur.setIfInBounds 2 u)[0]? = cur[0]? := by simp [Array.getElem?_setIfInBounds]
theorem set2_1 (cur : Array Value) (u : Value) : (cur.setIfInBounds 2 u)[1]? = cur[1]? := by simp [Array.getElem?_setIfInBounds]
theorem set2_2 {cur : Array Value} (u : Value) (h : 2 < cur.size) : (cur.setIfInBounds 2 u)[2]? = some u := by simp [Array.getElem?_setIfInBounds, h]
end Go.Own
namespace Go.Proofs.YgcsalGreat
open Go.RowKit Go.Own

set_option maxHeartbeats 4000000 in
set_option maxRecDepth 100000 in
theorem way_4 (tv v : Nat) (w : World) : Calls Salg.prog 26 #[.int .u8 4, n8 tv, n8 v] w fun e w' => ∃ cs, e = .returned (.agg (rwL cs 1 false tv nilS (ad 2) (ad 3) 0 2 true).toArray) ∧ Codes3 w' cs (fwdO 3 250) probeL (fwdC 0 2) ∧ Kept [] w w' := by
  have M := Mem.start w []
  go_enter Salg.func26, Salg.ntmps26
  go_wp2_with ((with_reducible apply L_allocA (d := 6) M); exact zero69; clear M; intro t6 w1 ht6 M; simp only [Act.put, List.setIfInBounds_toArray, List.set_cons_zero, List.set_cons_succ])
  refine (probe_lit _).mono ?_
  rintro e w2 ⟨pb, rfl, xP, xN, K⟩
  have h6p : t6 < pb := Nat.lt_of_lt_of_le (lt_of_row M.r0) xN
  replace M := (M.call K).add xP (by intro p hp; simp at hp; subst hp; exact Nat.ne_of_gt h6p)
  clear K xP xN h6p
  go_wp2_with ((with_reducible apply W_buildN (vs := #[nilS, .slice (some ⟨pb, 0, none⟩) 19 19]) (e := 40) M); kernel_rfl; clear M; intro b w3 hb hb2 KB M; clear KB hb2; simp only [Act.put, List.setIfInBounds_toArray, List.set_cons_zero, List.set_cons_succ])
  refine (toA1_any _).mono ?_
  rintro e w2 ⟨rfl, K⟩
  replace M := M.call K
  clear K
  go_wp2_with fail
  refine (addrNo_any 2 _).mono ?_
  rintro e w2 ⟨rfl, K⟩
  replace M := M.call K
  clear K
  go_wp2_with fail
  refine (addrNo_any 1 _).mono ?_
  rintro e w2 ⟨rfl, K⟩
  replace M := M.call K
  clear K
  go_wp2_with (first
    | ((with_reducible apply W_buildV (v := .agg (rwL (.slice (some ⟨b, 0, none⟩) 2 2) 1 false 0 nilS (ad 2) (ad 1) 0 1 false).toArray)); kernel_rfl; simp only [Act.put, List.setIfInBounds_toArray, List.set_cons_zero, List.set_cons_succ])
    | ((with_reducible apply L_allocA (d := 7) M); exact zero69; clear M; intro t7 w1 ht7 M; simp only [Act.put, List.setIfInBounds_toArray, List.set_cons_zero, List.set_cons_succ])
    | ((with_reducible apply W_storeK (b := t7) (vs := (rwL (.slice (some ⟨b, 0, none⟩) 2 2) 1 false 0 nilS (ad 2) (ad 1) 0 1 false).toArray)); rfl; rfl; exact M.r0; exact size69Z; kernel_rfl; exact oneT (rwL_one _ _ _ _ _ _ _ _ _ _ rfl rfl); intro w5 K hr3; replace M := Mem.callPut (L1 := []) M (Or.inr ht7) K hr3; clear K hr3; simp only [List.cons_append, List.nil_append] at M)
    | ((with_reducible apply W_stP (b := t7) (o := 107) (n := 1) (v := n8 tv) (rs := (rwL (.slice (some ⟨b, 0, none⟩) 2 2) 1 false tv nilS (ad 2) (ad 1) 0 1 false).toArray)); rfl; rfl; exact M.r0; exact size5; kernel_rfl; exact oneL (l := [n8 tv]) rfl; exact Nat.le_of_ble_eq_true (by kernel_rfl); kernel_rfl; intro w5 K hr3; replace M := Mem.callPut (L1 := []) M (Or.inr ht7) K hr3; clear K hr3; simp only [List.cons_append, List.nil_append] at M))
  refine S_region (by kernel_rfl) ?_
  refine E_stage 0 4 [0, 1, 2, 3] (by kernel_rfl) M.drew ?_
  clear M
  simp only [List.filterMap_cons, List.filterMap_nil, List.getElem?_cons_zero, List.getElem?_cons_succ]
  ((with_reducible apply E_run); rfl; rfl; (intro w M; go_simp; (try go_ints); (try simp only [↓IntWalk.iteOmega]); (try with_reducible rfl)); simp only [Act.put, List.setIfInBounds_toArray, List.set_cons_zero, List.set_cons_succ])
  ((with_reducible apply E_run); rfl; rfl; (intro w M; exact run_loadCell (M.r0) rfl (show (rwL (.slice (some ⟨b, 0, none⟩) 2 2) 1 false tv nilS (ad 2) (ad 1) 0 1 false).toArray[0]? = some (.slice (some ⟨b, 0, none⟩) 2 2) by rfl) Salg.underlying42 rfl); simp only [Act.put, List.setIfInBounds_toArray, List.set_cons_zero, List.set_cons_succ])
  refine E_call rfl Salg.func107 (by kernel_rfl) (by kernel_rfl) (args := [n8 250, n8 3, n8 0]) rfl ?_
  intro w1 K M
  clear K
  refine (fwdO_code 3 250 _ (by decide) (by decide) (by decide)).mono ?_
  rintro e w4 ⟨u0, rfl, xHX0, K⟩
  have HX0 := hid xHX0
  clear xHX0
  replace M := M.call K
  refine ⟨_, rfl, trivial, M, ?_⟩
  clear K
  simp only [Act.put, List.setIfInBounds_toArray, List.set_cons_zero, List.set_cons_succ]
  ((with_reducible apply E_run); rfl; rfl; (intro w M; go_simp; (try go_ints); (try simp only [↓IntWalk.iteOmega]); (try with_reducible rfl)); simp only [Act.put, List.setIfInBounds_toArray, List.set_cons_zero, List.set_cons_succ])
  refine E_nil ?_
  intro w9 K M
  replace HX0 := hid (HX0.out.kept K)
  clear K
  refine S_seg 4 5 (by kernel_rfl) (by decide) ?_
  simp only [List.take_succ_cons, List.take_zero, List.drop_zero, List.drop_succ_cons, Nat.sub_zero, Nat.reduceSub]
  go_wp2_with ((with_reducible apply W_stV (b := b) (o := 0) (v := u0)); rfl; rfl; exact HX0.out.one; exact M.r1; exact size40; exact (show 0 < 2 by decide); intro w5 K hr3; rw [show #[nilS, Value.slice (some ⟨pb, 0, none⟩) 19 19].setIfInBounds 0 u0 = #[u0, Value.slice (some ⟨pb, 0, none⟩) 19 19] from rfl] at hr3; replace HX0 := hid (HX0.out.keptC K M.r1 (by decide)); replace M := Mem.callPut (L1 := [_]) M (Or.inr hb) K hr3; clear K hr3; simp only [List.cons_append, List.nil_append] at M)
  refine S_done ?_
  go_wp2_with fail
  have HBR := hid (isCodes M.r1)
  have HPB := hid (code_probe M.r2)
  have HB7 : Hid (t7 ≠ b) := hid (rows_apart M.r0 M.r1 (by decide))
  have HB6 : Hid (t6 ≠ b) := hid (rows_apart M.r3 M.r1 (by decide))
  replace M : Mem w [] [(t7, _), (t6, _)] _ := M.sub (List.Sublist.cons_cons _ (List.Sublist.cons _ (List.Sublist.cons _ (List.Sublist.refl _))))
  refine S_region (by kernel_rfl) ?_
  replace HX0 := hid (HX0.out.kept (Kept.refl [] _).drew)
  replace HPB := hid (HPB.out.kept (Kept.refl [] _).drew)
  replace HBR := hid (HBR.out.kept (Kept.refl [] _).drew)
  refine E_stage 0 6 [0, 1, 2, 3, 4, 5] (by kernel_rfl) M.drew ?_
  clear M
  simp only [List.filterMap_cons, List.filterMap_nil, List.getElem?_cons_zero, List.getElem?_cons_succ]
  ((with_reducible apply E_run); rfl; rfl; (intro w M; go_simp; (try go_ints); (try simp only [↓IntWalk.iteOmega]); (try with_reducible rfl)); simp only [Act.put, List.setIfInBounds_toArray, List.set_cons_zero, List.set_cons_succ])
  ((with_reducible apply E_run); rfl; rfl; (intro w M; exact run_loadCell (M.r0) rfl (show (rwL (.slice (some ⟨b, 0, none⟩) 2 2) 1 false tv nilS (ad 2) (ad 1) 0 1 false).toArray[0]? = some (.slice (some ⟨b, 0, none⟩) 2 2) by rfl) Salg.underlying42 rfl); simp only [Act.put, List.setIfInBounds_toArray, List.set_cons_zero, List.set_cons_succ])
  refine E_call rfl Salg.func107 (by kernel_rfl) (by kernel_rfl) (args := [n8 241, n8 2, n8 0]) rfl ?_
  intro w1 K M
  replace HX0 := hid (HX0.out.kept K)
  replace HPB := hid (HPB.out.kept K)
  replace HBR := hid (HBR.out.kept K)
  clear K
  refine (fwdC_code 2 0 _ (by decide) (by decide)).mono ?_
  rintro e w4 ⟨u2, rfl, xHX2, K⟩
  have HX2 := hid xHX2
  clear xHX2
  replace HX0 := hid (HX0.out.kept K)
  replace HPB := hid (HPB.out.kept K)
  replace HBR := hid (HBR.out.kept K)
  replace M := M.call K
  refine ⟨_, rfl, trivial, M, ?_⟩
  clear K
  simp only [Act.put, List.setIfInBounds_toArray, List.set_cons_zero, List.set_cons_succ]
  have HU2 := hid HX2.out.one
  obtain ⟨g2, cp2, eu2⟩ := HX2.out.slice
  subst eu2
  refine E_buildIt (vs := #[Value.slice g2 (fwdC 0 2).length cp2]) (s := 1) rfl rfl Salg.underlying42 size40 zero40s rfl (by decide) (by decide) ?_
  intro bn wa wb K1 hbn hbn2 K2 M
  replace HX0 := hid (HX0.out.kept K1)
  replace HPB := hid (HPB.out.kept K1)
  replace HBR := hid (HBR.out.kept K1)
  replace HX2 := hid (HX2.out.kept K1)
  replace HX0 := hid (HX0.out.kept K2)
  replace HPB := hid (HPB.out.kept K2)
  replace HBR := hid (HBR.out.kept K2)
  replace HX2 := hid (HX2.out.kept K2)
  clear K1 K2
  simp only [Act.put, List.setIfInBounds_toArray, List.set_cons_zero, List.set_cons_succ]
  refine E_appendIt (base := w.heap.size) (n := 2) (m := 1) (s := 1) (bn := bn) (so := 0) (xs := [u0, Value.slice (some ⟨pb, 0, none⟩) 19 19]) (news := [Value.slice g2 (fwdC 0 2).length cp2]) (cs := #[Value.slice g2 (fwdC 0 2).length cp2]) info40 Salg.underlying42 rfl (by decide) (by decide) rfl rfl (own_lit HBR.out rfl (by decide) hb) (by decide) M.r0 rfl (cells_news _) (by intro u hu; simp at hu; subst hu; rfl) (Nat.le_refl _) (Nat.le_trans (Nat.le_of_lt (Nat.lt_of_le_of_lt hb (lt_of_row HBR.out))) (Nat.le_refl _)) (apart2 (by intro h; exact HB7.out (Option.some.inj h).symm) (by intro h; exact HB6.out (Option.some.inj h).symm)) ?_
  clear M
  intro VV wc wd K1 M xO hb3 K2
  replace HX0 := hid (HX0.out.kept K1)
  replace HPB := hid (HPB.out.kept K1)
  replace HBR := hid (HBR.out.kept K1)
  replace HX2 := hid (HX2.out.kept K1)
  replace HX0 := hid (HX0.out.keptC (c := b) K2 HBR.out (by decide))
  replace HPB := hid (HPB.out.keptC (c := b) K2 HBR.out (by decide))
  replace HX2 := hid (HX2.out.keptC (c := b) K2 HBR.out (by decide))
  have HO := hid xO
  clear xO K1 K2 hb3 HBR
  simp only [Act.put, List.setIfInBounds_toArray, List.set_cons_zero, List.set_cons_succ]
  ((with_reducible apply E_run); rfl; rfl; (intro w M; go_simp; (try go_ints); (try simp only [↓IntWalk.iteOmega]); (try with_reducible rfl)); simp only [Act.put, List.setIfInBounds_toArray, List.set_cons_zero, List.set_cons_succ])
  refine E_nil ?_
  intro w9 K M
  replace HX0 := hid (HX0.out.kept K)
  replace HPB := hid (HPB.out.kept K)
  replace HX2 := hid (HX2.out.kept K)
  replace HO := hid (own_kept HO.out K)
  clear K
  have HVV : Hid (VV.oneCell' = true) := own_one HO.out
  refine S_seg 6 7 (by kernel_rfl) (by decide) ?_
  simp only [List.take_succ_cons, List.take_zero, List.drop_zero, List.drop_succ_cons, Nat.sub_zero, Nat.reduceSub]
  obtain ⟨cb, cap, cur, eV, hcb, hcp, hcs, hcc⟩ := own_row HO.out (by decide)
  subst eV
  have e0 : cur[0]? = some u0 := (hcc 0 (by decide)).trans rfl
  have e1 : cur[1]? = some (Value.slice (some ⟨pb, 0, none⟩) 19 19) := (hcc 1 (by decide)).trans rfl
  have e2 : cur[2]? = some (Value.slice g2 (fwdC 0 2).length cp2) := (hcc 2 (by decide)).trans rfl
  have HE0 := hid e0
  have HE1 := hid e1
  have HE2 := hid e2
  have HCS : Hid (2 < cur.size) := by rw [hcs]; exact hcp
  have HCB : Hid (w.heap.size ≤ cb) := hid (own_ge HO.out)
  replace M := M.add hcb (by intro p hp; simp at hp; rcases hp with rfl | rfl; exact rows_apart hcb M.r0 (by decide); exact rows_apart hcb M.r1 (by decide))
  clear e0 e1 e2 hcb hcp hcs hcc HO HVV
  go_wp2_with ((with_reducible apply W_stP (b := t7) (o := 0) (n := 1) (v := .slice (some ⟨cb, 0, none⟩) 3 cap) (rs := (rwL (.slice (some ⟨cb, 0, none⟩) 3 cap) 1 false tv nilS (ad 2) (ad 1) 0 1 false).toArray)); rfl; rfl; exact M.r1; exact size42; kernel_rfl; exact oneL (l := [.slice (some ⟨cb, 0, none⟩) 3 cap]) rfl; exact Nat.le_of_ble_eq_true (by kernel_rfl); kernel_rfl; intro w5 K hr3; replace HX0 := hid (HX0.out.keptC K M.r1 (by decide)); replace HPB := hid (HPB.out.keptC K M.r1 (by decide)); replace HX2 := hid (HX2.out.keptC K M.r1 (by decide)); replace M := Mem.callPut (L1 := [_]) M (Or.inr ht7) K hr3; clear K hr3; simp only [List.cons_append, List.nil_append] at M)
  refine S_done ?_
  go_wp2_with fail
  refine (addrNo_any 3 _).mono ?_
  rintro e w2 ⟨rfl, K⟩
  replace HX0 := hid (HX0.out.kept K)
  replace HPB := hid (HPB.out.kept K)
  replace HX2 := hid (HX2.out.kept K)
  replace M := M.call K
  clear K
  go_wp2_with (first
    | ((with_reducible apply W_stP (b := t7) (o := 195) (n := 20) (v := A8 (ad 3)) (rs := (rwL (.slice (some ⟨cb, 0, none⟩) 3 cap) 1 false tv nilS (ad 2) (ad 3) 0 1 false).toArray)); rfl; rfl; exact M.r1; exact size45; kernel_rfl; exact oneL rfl; exact Nat.le_of_ble_eq_true (by kernel_rfl); kernel_rfl; intro w5 K hr3; replace HX0 := hid (HX0.out.keptC K M.r1 (by decide)); replace HPB := hid (HPB.out.keptC K M.r1 (by decide)); replace HX2 := hid (HX2.out.keptC K M.r1 (by decide)); replace M := Mem.callPut (L1 := [_]) M (Or.inr ht7) K hr3; clear K hr3; simp only [List.cons_append, List.nil_append] at M)
    | ((with_reducible apply W_stP (b := t7) (o := 216) (n := 1) (v := n8 2) (rs := (rwL (.slice (some ⟨cb, 0, none⟩) 3 cap) 1 false tv nilS (ad 2) (ad 3) 0 2 false).toArray)); rfl; rfl; exact M.r1; exact size5; kernel_rfl; exact oneL (l := [n8 2]) rfl; exact Nat.le_of_ble_eq_true (by kernel_rfl); kernel_rfl; intro w5 K hr3; replace HX0 := hid (HX0.out.keptC K M.r1 (by decide)); replace HPB := hid (HPB.out.keptC K M.r1 (by decide)); replace HX2 := hid (HX2.out.keptC K M.r1 (by decide)); replace M := Mem.callPut (L1 := [_]) M (Or.inr ht7) K hr3; clear K hr3; simp only [List.cons_append, List.nil_append] at M)
    | ((with_reducible apply W_stP (b := t7) (o := 217) (n := 1) (v := .bool true) (rs := (rwL (.slice (some ⟨cb, 0, none⟩) 3 cap) 1 false tv nilS (ad 2) (ad 3) 0 2 true).toArray)); rfl; rfl; exact M.r1; exact size4; kernel_rfl; exact oneL (l := [.bool true]) rfl; exact Nat.le_of_ble_eq_true (by kernel_rfl); kernel_rfl; intro w5 K hr3; replace HX0 := hid (HX0.out.keptC K M.r1 (by decide)); replace HPB := hid (HPB.out.keptC K M.r1 (by decide)); replace HX2 := hid (HX2.out.keptC K M.r1 (by decide)); replace M := Mem.callPut (L1 := [_]) M (Or.inr ht7) K hr3; clear K hr3; simp only [List.cons_append, List.nil_append] at M)
    | ((with_reducible apply W_loadAll); rfl; exact M.r1; exact Salg.underlying69; rfl; exact (size69 _ _ _ _ _ _ _ _ _ _ rfl rfl); simp only [Act.put, List.setIfInBounds_toArray, List.set_cons_zero, List.set_cons_succ])
    | ((with_reducible apply W_storeK (b := t6) (vs := (rwL (.slice (some ⟨cb, 0, none⟩) 3 cap) 1 false tv nilS (ad 2) (ad 3) 0 2 true).toArray)); rfl; rfl; exact M.r2; exact size69Z; kernel_rfl; exact oneT (rwL_one _ _ _ _ _ _ _ _ _ _ rfl rfl); intro w5 K hr3; replace HX0 := hid (HX0.out.keptC K M.r2 (by decide)); replace HPB := hid (HPB.out.keptC K M.r2 (by decide)); replace HX2 := hid (HX2.out.keptC K M.r2 (by decide)); replace M := Mem.callPut (L1 := [_, _]) M (Or.inr ht6) K hr3; clear K hr3; simp only [List.cons_append, List.nil_append] at M))
  refine ret_cell1 Salg.results26 rfl M.r2 Salg.underlying69 rfl (size69 _ _ _ _ _ _ _ _ _ _ rfl rfl) rfl ?_
  exact ⟨_, rfl, ⟨cb, cap, _, _, _, _, rfl, M.r0, HE0.out, HE1.out, HE2.out, HX0.out, HPB.out, HX2.out⟩, M.kept⟩

set_option maxHeartbeats 4000000 in
set_option maxRecDepth 100000 in
theorem way_5 (tv v : Nat) (w : World) : Calls Salg.prog 26 #[.int .u8 5, n8 tv, n8 v] w fun e w' => ∃ cs, e = .returned (.agg (rwL cs 1 false tv nilS (ad 3) (ad 1) 0 2 true).toArray) ∧ Codes3 w' cs (fwdO 3 250) probeL (fwdO 2 244) ∧ Kept [] w w' := by
  have M := Mem.start w []
  go_enter Salg.func26, Salg.ntmps26
  go_wp2_with ((with_reducible apply L_allocA (d := 6) M); exact zero69; clear M; intro t6 w1 ht6 M; simp only [Act.put, List.setIfInBounds_toArray, List.set_cons_zero, List.set_cons_succ])
  refine (probe_lit _).mono ?_
  rintro e w2 ⟨pb, rfl, xP, xN, K⟩
  have h6p : t6 < pb := Nat.lt_of_lt_of_le (lt_of_row M.r0) xN
  replace M := (M.call K).add xP (by intro p hp; simp at hp; subst hp; exact Nat.ne_of_gt h6p)
  clear K xP xN h6p
  go_wp2_with ((with_reducible apply W_buildN (vs := #[nilS, .slice (some ⟨pb, 0, none⟩) 19 19]) (e := 40) M); kernel_rfl; clear M; intro b w3 hb hb2 KB M; clear KB hb2; simp only [Act.put, List.setIfInBounds_toArray, List.set_cons_zero, List.set_cons_succ])
  refine (toA1_any _).mono ?_
  rintro e w2 ⟨rfl, K⟩
  replace M := M.call K
  clear K
  go_wp2_with fail
  refine (addrNo_any 2 _).mono ?_
  rintro e w2 ⟨rfl, K⟩
  replace M := M.call K
  clear K
  go_wp2_with fail
  refine (addrNo_any 1 _).mono ?_
  rintro e w2 ⟨rfl, K⟩
  replace M := M.call K
  clear K
  go_wp2_with (first
    | ((with_reducible apply W_buildV (v := .agg (rwL (.slice (some ⟨b, 0, none⟩) 2 2) 1 false 0 nilS (ad 2) (ad 1) 0 1 false).toArray)); kernel_rfl; simp only [Act.put, List.setIfInBounds_toArray, List.set_cons_zero, List.set_cons_succ])
    | ((with_reducible apply L_allocA (d := 7) M); exact zero69; clear M; intro t7 w1 ht7 M; simp only [Act.put, List.setIfInBounds_toArray, List.set_cons_zero, List.set_cons_succ])
    | ((with_reducible apply W_storeK (b := t7) (vs := (rwL (.slice (some ⟨b, 0, none⟩) 2 2) 1 false 0 nilS (ad 2) (ad 1) 0 1 false).toArray)); rfl; rfl; exact M.r0; exact size69Z; kernel_rfl; exact oneT (rwL_one _ _ _ _ _ _ _ _ _ _ rfl rfl); intro w5 K hr3; replace M := Mem.callPut (L1 := []) M (Or.inr ht7) K hr3; clear K hr3; simp only [List.cons_append, List.nil_append] at M)
    | ((with_reducible apply W_stP (b := t7) (o := 107) (n := 1) (v := n8 tv) (rs := (rwL (.slice (some ⟨b, 0, none⟩) 2 2) 1 false tv nilS (ad 2) (ad 1) 0 1 false).toArray)); rfl; rfl; exact M.r0; exact size5; kernel_rfl; exact oneL (l := [n8 tv]) rfl; exact Nat.le_of_ble_eq_true (by kernel_rfl); kernel_rfl; intro w5 K hr3; replace M := Mem.callPut (L1 := []) M (Or.inr ht7) K hr3; clear K hr3; simp only [List.cons_append, List.nil_append] at M))
  refine S_region (by kernel_rfl) ?_
  refine E_stage 0 4 [0, 1, 2, 3] (by kernel_rfl) M.drew ?_
  clear M
  simp only [List.filterMap_cons, List.filterMap_nil, List.getElem?_cons_zero, List.getElem?_cons_succ]
  ((with_reducible apply E_run); rfl; rfl; (intro w M; go_simp; (try go_ints); (try simp only [↓IntWalk.iteOmega]); (try with_reducible rfl)); simp only [Act.put, List.setIfInBounds_toArray, List.set_cons_zero, List.set_cons_succ])
  ((with_reducible apply E_run); rfl; rfl; (intro w M; exact run_loadCell (M.r0) rfl (show (rwL (.slice (some ⟨b, 0, none⟩) 2 2) 1 false tv nilS (ad 2) (ad 1) 0 1 false).toArray[0]? = some (.slice (some ⟨b, 0, none⟩) 2 2) by rfl) Salg.underlying42 rfl); simp only [Act.put, List.setIfInBounds_toArray, List.set_cons_zero, List.set_cons_succ])
  refine E_call rfl Salg.func107 (by kernel_rfl) (by kernel_rfl) (args := [n8 250, n8 3, n8 0]) rfl ?_
  intro w1 K M
  clear K
  refine (fwdO_code 3 250 _ (by decide) (by decide) (by decide)).mono ?_
  rintro e w4 ⟨u0, rfl, xHX0, K⟩
  have HX0 := hid xHX0
  clear xHX0
  replace M := M.call K
  refine ⟨_, rfl, trivial, M, ?_⟩
  clear K
  simp only [Act.put, List.setIfInBounds_toArray, List.set_cons_zero, List.set_cons_succ]
  ((with_reducible apply E_run); rfl; rfl; (intro w M; go_simp; (try go_ints); (try simp only [↓IntWalk.iteOmega]); (try with_reducible rfl)); simp only [Act.put, List.setIfInBounds_toArray, List.set_cons_zero, List.set_cons_succ])
  refine E_nil ?_
  intro w9 K M
  replace HX0 := hid (HX0.out.kept K)
  clear K
  refine S_seg 4 5 (by kernel_rfl) (by decide) ?_
  simp only [List.take_succ_cons, List.take_zero, List.drop_zero, List.drop_succ_cons, Nat.sub_zero, Nat.reduceSub]
  go_wp2_with ((with_reducible apply W_stV (b := b) (o := 0) (v := u0)); rfl; rfl; exact HX0.out.one; exact M.r1; exact size40; exact (show 0 < 2 by decide); intro w5 K hr3; rw [show #[nilS, Value.slice (some ⟨pb, 0, none⟩) 19 19].setIfInBounds 0 u0 = #[u0, Value.slice (some ⟨pb, 0, none⟩) 19 19] from rfl] at hr3; replace HX0 := hid (HX0.out.keptC K M.r1 (by decide)); replace M := Mem.callPut (L1 := [_]) M (Or.inr hb) K hr3; clear K hr3; simp only [List.cons_append, List.nil_append] at M)
  refine S_done ?_
  go_wp2_with fail
  have HBR := hid (isCodes M.r1)
  have HPB := hid (code_probe M.r2)
  have HB7 : Hid (t7 ≠ b) := hid (rows_apart M.r0 M.r1 (by decide))
  have HB6 : Hid (t6 ≠ b) := hid (rows_apart M.r3 M.r1 (by decide))
  replace M : Mem w [] [(t7, _), (t6, _)] _ := M.sub (List.Sublist.cons_cons _ (List.Sublist.cons _ (List.Sublist.cons _ (List.Sublist.refl _))))
  refine S_region (by kernel_rfl) ?_
  replace HX0 := hid (HX0.out.kept (Kept.refl [] _).drew)
  replace HPB := hid (HPB.out.kept (Kept.refl [] _).drew)
  replace HBR := hid (HBR.out.kept (Kept.refl [] _).drew)
  refine E_stage 0 6 [0, 1, 2, 3, 4, 5] (by kernel_rfl) M.drew ?_
  clear M
  simp only [List.filterMap_cons, List.filterMap_nil, List.getElem?_cons_zero, List.getElem?_cons_succ]
  ((with_reducible apply E_run); rfl; rfl; (intro w M; go_simp; (try go_ints); (try simp only [↓IntWalk.iteOmega]); (try with_reducible rfl)); simp only [Act.put, List.setIfInBounds_toArray, List.set_cons_zero, List.set_cons_succ])
  ((with_reducible apply E_run); rfl; rfl; (intro w M; exact run_loadCell (M.r0) rfl (show (rwL (.slice (some ⟨b, 0, none⟩) 2 2) 1 false tv nilS (ad 2) (ad 1) 0 1 false).toArray[0]? = some (.slice (some ⟨b, 0, none⟩) 2 2) by rfl) Salg.underlying42 rfl); simp only [Act.put, List.setIfInBounds_toArray, List.set_cons_zero, List.set_cons_succ])
  refine E_call rfl Salg.func107 (by kernel_rfl) (by kernel_rfl) (args := [n8 241, n8 2, n8 0]) rfl ?_
  intro w1 K M
  replace HX0 := hid (HX0.out.kept K)
  replace HPB := hid (HPB.out.kept K)
  replace HBR := hid (HBR.out.kept K)
  clear K
  refine (fwdC_code 2 0 _ (by decide) (by decide)).mono ?_
  rintro e w4 ⟨u2, rfl, xHX2, K⟩
  have HX2 := hid xHX2
  clear xHX2
  replace HX0 := hid (HX0.out.kept K)
  replace HPB := hid (HPB.out.kept K)
  replace HBR := hid (HBR.out.kept K)
  replace M := M.call K
  refine ⟨_, rfl, trivial, M, ?_⟩
  clear K
  simp only [Act.put, List.setIfInBounds_toArray, List.set_cons_zero, List.set_cons_succ]
  have HU2 := hid HX2.out.one
  obtain ⟨g2, cp2, eu2⟩ := HX2.out.slice
  subst eu2
  refine E_buildIt (vs := #[Value.slice g2 (fwdC 0 2).length cp2]) (s := 1) rfl rfl Salg.underlying42 size40 zero40s rfl (by decide) (by decide) ?_
  intro bn wa wb K1 hbn hbn2 K2 M
  replace HX0 := hid (HX0.out.kept K1)
  replace HPB := hid (HPB.out.kept K1)
  replace HBR := hid (HBR.out.kept K1)
  replace HX2 := hid (HX2.out.kept K1)
  replace HX0 := hid (HX0.out.kept K2)
  replace HPB := hid (HPB.out.kept K2)
  replace HBR := hid (HBR.out.kept K2)
  replace HX2 := hid (HX2.out.kept K2)
  clear K1 K2
  simp only [Act.put, List.setIfInBounds_toArray, List.set_cons_zero, List.set_cons_succ]
  refine E_appendIt (base := w.heap.size) (n := 2) (m := 1) (s := 1) (bn := bn) (so := 0) (xs := [u0, Value.slice (some ⟨pb, 0, none⟩) 19 19]) (news := [Value.slice g2 (fwdC 0 2).length cp2]) (cs := #[Value.slice g2 (fwdC 0 2).length cp2]) info40 Salg.underlying42 rfl (by decide) (by decide) rfl rfl (own_lit HBR.out rfl (by decide) hb) (by decide) M.r0 rfl (cells_news _) (by intro u hu; simp at hu; subst hu; rfl) (Nat.le_refl _) (Nat.le_trans (Nat.le_of_lt (Nat.lt_of_le_of_lt hb (lt_of_row HBR.out))) (Nat.le_refl _)) (apart2 (by intro h; exact HB7.out (Option.some.inj h).symm) (by intro h; exact HB6.out (Option.some.inj h).symm)) ?_
  clear M
  intro VV wc wd K1 M xO hb3 K2
  replace HX0 := hid (HX0.out.kept K1)
  replace HPB := hid (HPB.out.kept K1)
  replace HBR := hid (HBR.out.kept K1)
  replace HX2 := hid (HX2.out.kept K1)
  replace HX0 := hid (HX0.out.keptC (c := b) K2 HBR.out (by decide))
  replace HPB := hid (HPB.out.keptC (c := b) K2 HBR.out (by decide))
  replace HX2 := hid (HX2.out.keptC (c := b) K2 HBR.out (by decide))
  have HO := hid xO
  clear xO K1 K2 hb3 HBR
  simp only [Act.put, List.setIfInBounds_toArray, List.set_cons_zero, List.set_cons_succ]
  ((with_reducible apply E_run); rfl; rfl; (intro w M; go_simp; (try go_ints); (try simp only [↓IntWalk.iteOmega]); (try with_reducible rfl)); simp only [Act.put, List.setIfInBounds_toArray, List.set_cons_zero, List.set_cons_succ])
  refine E_nil ?_
  intro w9 K M
  replace HX0 := hid (HX0.out.kept K)
  replace HPB := hid (HPB.out.kept K)
  replace HX2 := hid (HX2.out.kept K)
  replace HO := hid (own_kept HO.out K)
  clear K
  have HVV : Hid (VV.oneCell' = true) := own_one HO.out
  refine S_seg 6 7 (by kernel_rfl) (by decide) ?_
  simp only [List.take_succ_cons, List.take_zero, List.drop_zero, List.drop_succ_cons, Nat.sub_zero, Nat.reduceSub]
  obtain ⟨cb, cap, cur, eV, hcb, hcp, hcs, hcc⟩ := own_row HO.out (by decide)
  subst eV
  have e0 : cur[0]? = some u0 := (hcc 0 (by decide)).trans rfl
  have e1 : cur[1]? = some (Value.slice (some ⟨pb, 0, none⟩) 19 19) := (hcc 1 (by decide)).trans rfl
  have e2 : cur[2]? = some (Value.slice g2 (fwdC 0 2).length cp2) := (hcc 2 (by decide)).trans rfl
  have HE0 := hid e0
  have HE1 := hid e1
  have HE2 := hid e2
  have HCS : Hid (2 < cur.size) := by rw [hcs]; exact hcp
  have HCB : Hid (w.heap.size ≤ cb) := hid (own_ge HO.out)
  replace M := M.add hcb (by intro p hp; simp at hp; rcases hp with rfl | rfl; exact rows_apart hcb M.r0 (by decide); exact rows_apart hcb M.r1 (by decide))
  clear e0 e1 e2 hcb hcp hcs hcc HO HVV
  go_wp2_with ((with_reducible apply W_stP (b := t7) (o := 0) (n := 1) (v := .slice (some ⟨cb, 0, none⟩) 3 cap) (rs := (rwL (.slice (some ⟨cb, 0, none⟩) 3 cap) 1 false tv nilS (ad 2) (ad 1) 0 1 false).toArray)); rfl; rfl; exact M.r1; exact size42; kernel_rfl; exact oneL (l := [.slice (some ⟨cb, 0, none⟩) 3 cap]) rfl; exact Nat.le_of_ble_eq_true (by kernel_rfl); kernel_rfl; intro w5 K hr3; replace HX0 := hid (HX0.out.keptC K M.r1 (by decide)); replace HPB := hid (HPB.out.keptC K M.r1 (by decide)); replace HX2 := hid (HX2.out.keptC K M.r1 (by decide)); replace M := Mem.callPut (L1 := [_]) M (Or.inr ht7) K hr3; clear K hr3; simp only [List.cons_append, List.nil_append] at M)
  refine S_done ?_
  go_wp2_with fail
  refine (addrNo_any 3 _).mono ?_
  rintro e w2 ⟨rfl, K⟩
  replace HX0 := hid (HX0.out.kept K)
  replace HPB := hid (HPB.out.kept K)
  replace HX2 := hid (HX2.out.kept K)
  replace M := M.call K
  clear K
  go_wp2_with ((with_reducible apply W_stP (b := t7) (o := 195) (n := 20) (v := A8 (ad 3)) (rs := (rwL (.slice (some ⟨cb, 0, none⟩) 3 cap) 1 false tv nilS (ad 2) (ad 3) 0 1 false).toArray)); rfl; rfl; exact M.r1; exact size45; kernel_rfl; exact oneL rfl; exact Nat.le_of_ble_eq_true (by kernel_rfl); kernel_rfl; intro w5 K hr3; replace HX0 := hid (HX0.out.keptC K M.r1 (by decide)); replace HPB := hid (HPB.out.keptC K M.r1 (by decide)); replace HX2 := hid (HX2.out.keptC K M.r1 (by decide)); replace M := Mem.callPut (L1 := [_]) M (Or.inr ht7) K hr3; clear K hr3; simp only [List.cons_append, List.nil_append] at M)
  refine S_region (by kernel_rfl) ?_
  replace HX0 := hid (HX0.out.kept (Kept.refl [] _).drew)
  replace HPB := hid (HPB.out.kept (Kept.refl [] _).drew)
  replace HX2 := hid (HX2.out.kept (Kept.refl [] _).drew)
  refine E_stage 0 4 [0, 1, 2, 3] (by kernel_rfl) M.drew ?_
  clear M
  simp only [List.filterMap_cons, List.filterMap_nil, List.getElem?_cons_zero, List.getElem?_cons_succ]
  ((with_reducible apply E_run); rfl; rfl; (intro w M; go_simp; (try go_ints); (try simp only [↓IntWalk.iteOmega]); (try with_reducible rfl)); simp only [Act.put, List.setIfInBounds_toArray, List.set_cons_zero, List.set_cons_succ])
  ((with_reducible apply E_run); rfl; rfl; (intro w M; exact run_loadCell (M.r1) rfl (show (rwL (.slice (some ⟨cb, 0, none⟩) 3 cap) 1 false tv nilS (ad 2) (ad 3) 0 1 false).toArray[0]? = some (.slice (some ⟨cb, 0, none⟩) 3 cap) by rfl) Salg.underlying42 rfl); simp only [Act.put, List.setIfInBounds_toArray, List.set_cons_zero, List.set_cons_succ])
  refine E_call rfl Salg.func107 (by kernel_rfl) (by kernel_rfl) (args := [n8 244, n8 2, n8 0]) rfl ?_
  intro w1 K M
  replace HX0 := hid (HX0.out.kept K)
  replace HPB := hid (HPB.out.kept K)
  replace HX2 := hid (HX2.out.kept K)
  clear K
  refine (fwdO_code 2 244 _ (by decide) (by decide) (by decide)).mono ?_
  rintro e w4 ⟨u3, rfl, xHX3, K⟩
  have HX3 := hid xHX3
  clear xHX3
  replace HX0 := hid (HX0.out.kept K)
  replace HPB := hid (HPB.out.kept K)
  replace HX2 := hid (HX2.out.kept K)
  replace M := M.call K
  refine ⟨_, rfl, trivial, M, ?_⟩
  clear K
  simp only [Act.put, List.setIfInBounds_toArray, List.set_cons_zero, List.set_cons_succ]
  ((with_reducible apply E_run); rfl; rfl; (intro w M; go_simp; (try go_ints); (try simp only [↓IntWalk.iteOmega]); (try with_reducible rfl)); simp only [Act.put, List.setIfInBounds_toArray, List.set_cons_zero, List.set_cons_succ])
  refine E_nil ?_
  intro w9 K M
  replace HX0 := hid (HX0.out.kept K)
  replace HPB := hid (HPB.out.kept K)
  replace HX2 := hid (HX2.out.kept K)
  replace HX3 := hid (HX3.out.kept K)
  clear K
  refine S_seg 4 5 (by kernel_rfl) (by decide) ?_
  simp only [List.take_succ_cons, List.take_zero, List.drop_zero, List.drop_succ_cons, Nat.sub_zero, Nat.reduceSub]
  go_wp2_with ((with_reducible apply W_stV (b := cb) (o := 2) (v := u3)); rfl; rfl; exact HX3.out.one; exact M.r0; exact size40; exact HCS.out; intro w5 K hr3; replace HX0 := hid (HX0.out.keptC K M.r0 (by decide)); replace HPB := hid (HPB.out.keptC K M.r0 (by decide)); replace HX2 := hid (HX2.out.keptC K M.r0 (by decide)); replace HX3 := hid (HX3.out.keptC K M.r0 (by decide)); replace M := Mem.callPut (L1 := []) M (Or.inr HCB.out) K hr3; clear K hr3; simp only [List.cons_append, List.nil_append] at M)
  refine S_done ?_
  replace HE0 := hid ((set2_0 cur u3).trans HE0.out)
  replace HE1 := hid ((set2_1 cur u3).trans HE1.out)
  replace HE2 := hid (set2_2 u3 HCS.out)
  generalize cur.setIfInBounds 2 u3 = cur2 at *
  go_wp2_with fail
  refine (addrNo_any 3 _).mono ?_
  rintro e w2 ⟨rfl, K⟩
  replace HX0 := hid (HX0.out.kept K)
  replace HPB := hid (HPB.out.kept K)
  replace HX2 := hid (HX2.out.kept K)
  replace HX3 := hid (HX3.out.kept K)
  replace M := M.call K
  clear K
  go_wp2_with ((with_reducible apply W_stP (b := t7) (o := 175) (n := 20) (v := A8 (ad 3)) (rs := (rwL (.slice (some ⟨cb, 0, none⟩) 3 cap) 1 false tv nilS (ad 3) (ad 3) 0 1 false).toArray)); rfl; rfl; exact M.r1; exact size45; kernel_rfl; exact oneL rfl; exact Nat.le_of_ble_eq_true (by kernel_rfl); kernel_rfl; intro w5 K hr3; replace HX0 := hid (HX0.out.keptC K M.r1 (by decide)); replace HPB := hid (HPB.out.keptC K M.r1 (by decide)); replace HX2 := hid (HX2.out.keptC K M.r1 (by decide)); replace HX3 := hid (HX3.out.keptC K M.r1 (by decide)); replace M := Mem.callPut (L1 := [_]) M (Or.inr ht7) K hr3; clear K hr3; simp only [List.cons_append, List.nil_append] at M)
  refine (addrNo_any 1 _).mono ?_
  rintro e w2 ⟨rfl, K⟩
  replace HX0 := hid (HX0.out.kept K)
  replace HPB := hid (HPB.out.kept K)
  replace HX2 := hid (HX2.out.kept K)
  replace HX3 := hid (HX3.out.kept K)
  replace M := M.call K
  clear K
  go_wp2_with (first
    | ((with_reducible apply W_stP (b := t7) (o := 195) (n := 20) (v := A8 (ad 1)) (rs := (rwL (.slice (some ⟨cb, 0, none⟩) 3 cap) 1 false tv nilS (ad 3) (ad 1) 0 1 false).toArray)); rfl; rfl; exact M.r1; exact size45; kernel_rfl; exact oneL rfl; exact Nat.le_of_ble_eq_true (by kernel_rfl); kernel_rfl; intro w5 K hr3; replace HX0 := hid (HX0.out.keptC K M.r1 (by decide)); replace HPB := hid (HPB.out.keptC K M.r1 (by decide)); replace HX2 := hid (HX2.out.keptC K M.r1 (by decide)); replace HX3 := hid (HX3.out.keptC K M.r1 (by decide)); replace M := Mem.callPut (L1 := [_]) M (Or.inr ht7) K hr3; clear K hr3; simp only [List.cons_append, List.nil_append] at M)
    | ((with_reducible apply W_stP (b := t7) (o := 216) (n := 1) (v := n8 2) (rs := (rwL (.slice (some ⟨cb, 0, none⟩) 3 cap) 1 false tv nilS (ad 3) (ad 1) 0 2 false).toArray)); rfl; rfl; exact M.r1; exact size5; kernel_rfl; exact oneL (l := [n8 2]) rfl; exact Nat.le_of_ble_eq_true (by kernel_rfl); kernel_rfl; intro w5 K hr3; replace HX0 := hid (HX0.out.keptC K M.r1 (by decide)); replace HPB := hid (HPB.out.keptC K M.r1 (by decide)); replace HX2 := hid (HX2.out.keptC K M.r1 (by decide)); replace HX3 := hid (HX3.out.keptC K M.r1 (by decide)); replace M := Mem.callPut (L1 := [_]) M (Or.inr ht7) K hr3; clear K hr3; simp only [List.cons_append, List.nil_append] at M)
    | ((with_reducible apply W_stP (b := t7) (o := 217) (n := 1) (v := .bool true) (rs := (rwL (.slice (some ⟨cb, 0, none⟩) 3 cap) 1 false tv nilS (ad 3) (ad 1) 0 2 true).toArray)); rfl; rfl; exact M.r1; exact size4; kernel_rfl; exact oneL (l := [.bool true]) rfl; exact Nat.le_of_ble_eq_true (by kernel_rfl); kernel_rfl; intro w5 K hr3; replace HX0 := hid (HX0.out.keptC K M.r1 (by decide)); replace HPB := hid (HPB.out.keptC K M.r1 (by decide)); replace HX2 := hid (HX2.out.keptC K M.r1 (by decide)); replace HX3 := hid (HX3.out.keptC K M.r1 (by decide)); replace M := Mem.callPut (L1 := [_]) M (Or.inr ht7) K hr3; clear K hr3; simp only [List.cons_append, List.nil_append] at M)
    | ((with_reducible apply W_loadAll); rfl; exact M.r1; exact Salg.underlying69; rfl; exact (size69 _ _ _ _ _ _ _ _ _ _ rfl rfl); simp only [Act.put, List.setIfInBounds_toArray, List.set_cons_zero, List.set_cons_succ])
    | ((with_reducible apply W_storeK (b := t6) (vs := (rwL (.slice (some ⟨cb, 0, none⟩) 3 cap) 1 false tv nilS (ad 3) (ad 1) 0 2 true).toArray)); rfl; rfl; exact M.r2; exact size69Z; kernel_rfl; exact oneT (rwL_one _ _ _ _ _ _ _ _ _ _ rfl rfl); intro w5 K hr3; replace HX0 := hid (HX0.out.keptC K M.r2 (by decide)); replace HPB := hid (HPB.out.keptC K M.r2 (by decide)); replace HX2 := hid (HX2.out.keptC K M.r2 (by decide)); replace HX3 := hid (HX3.out.keptC K M.r2 (by decide)); replace M := Mem.callPut (L1 := [_, _]) M (Or.inr ht6) K hr3; clear K hr3; simp only [List.cons_append, List.nil_append] at M))
  refine ret_cell1 Salg.results26 rfl M.r2 Salg.underlying69 rfl (size69 _ _ _ _ _ _ _ _ _ _ rfl rfl) rfl ?_
  exact ⟨_, rfl, ⟨cb, cap, _, _, _, _, rfl, M.r0, HE0.out, HE1.out, HE2.out, HX0.out, HPB.out, HX3.out⟩, M.kept⟩
end Go.Proofs.YgcsalGreat

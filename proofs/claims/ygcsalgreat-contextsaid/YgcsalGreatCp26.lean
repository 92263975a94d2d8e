/-
  The walk of (*yp.State).verdict at a call with data.
-/
import Derived.Test.YgcsalGreatSl9
import Derived.Test.YgcsalGreatCp25
set_option linter.unusedSimpArgs false
set_option linter.unusedVariables false
namespace Go.Proofs.YgcsalGreat
open Go.RowKit Go.Own
theorem tx_valD (pd : Option Addr) (n cd : Nat) : ∀ (i x : Nat), (List.replicate 32 0)[i]? = some x → (txP (Value.slice pd n cd)).toArray[75 + i]? = some (n8 x) := by
  intro i x hx
  have hlt : i < 32 := by simpa using (List.getElem?_eq_some_iff.1 hx).1
  have h0 : x = 0 := by
    have := List.mem_of_getElem? hx
    rw [List.mem_replicate] at this
    exact this.2
  subst h0
  have e : ((txP (Value.slice pd n cd)).drop 75).take 32 = List.replicate 32 (n8 0) := by kernel_rfl
  have h : (((txP (Value.slice pd n cd)).drop 75).take 32)[i]? = (List.replicate 32 (n8 0))[i]? := by rw [e]
  rw [List.getElem?_take_of_lt hlt, List.getElem?_drop, List.getElem?_replicate, if_pos hlt] at h
  rw [List.getElem?_toArray]
  exact h
set_option maxHeartbeats 4000000 in
set_option maxRecDepth 100000 in
theorem verdict_D (c n cd : Nat) (pd : Option Addr) (ds : List Nat) (va tv nv bv cu sl nvb bvb cub nv2 bv2 : Value) (w : World) (hc : w.heap[c]? = some (.cells (ch0 va tv) 119 (0, 0))) (hv : AcsV w va (l3 nv bv cu sl nvb bvb cub nv2 bv2)) (hdv : NatV w (Value.slice pd n cd) ds) (hdl : ds.length = n) (hn96 : n ≤ 1000) (hn2 : NumV w nv2 0) (hb2 : NumV w bv2 340282366920938463463374607431768211456) :
    Calls Salg.prog 84 #[.pointer (some ⟨c, 0, none⟩), .agg (txP (Value.slice pd n cd)).toArray] w fun e w' => e = .returned (.int .u8 0) ∧ Kept [] w w' := by
  have M := Mem.start w []
  have HA := hid hv
  have HN2 := hid hn2
  have HB2 := hid hb2
  have HDV := hid hdv
  have HDL := hid hdl
  clear hv hn2 hb2 hdv hdl
  go_enter Salg.func84, Salg.ntmps84
  go_wp2_with ((with_reducible apply L_box M); rfl; clear M; intro tb w1 htb M; simp only [Act.put, List.setIfInBounds_toArray, List.set_cons_zero, List.set_cons_succ])
  refine S_region (by kernel_rfl) ?_
  refine E_float 0 7 [0, 1, 2, 3, 4, 5] 6 5 _ (by kernel_rfl) ⟨⟨_, _, _, _, _, rfl, zero128, rfl⟩⟩ (by simp) M.drew ?_
  clear M
  simp only [List.filterMap_cons, List.filterMap_nil, List.getElem?_cons_zero, List.getElem?_cons_succ]
  ((with_reducible apply E_run); rfl; rfl; (intro w M; go_simp; (try go_ints); (try simp only [↓IntWalk.iteOmega]); (try with_reducible rfl)); simp only [Act.put, List.setIfInBounds_toArray, List.set_cons_zero, List.set_cons_succ])
  ((with_reducible apply E_run); rfl; rfl; (intro w M; go_simp; (try go_ints); (try simp only [↓IntWalk.iteOmega]); (try with_reducible rfl)); simp only [Act.put, List.setIfInBounds_toArray, List.set_cons_zero, List.set_cons_succ])
  ((with_reducible apply E_run); rfl; rfl; (intro w M; go_simp; (try go_ints); (try simp only [↓IntWalk.iteOmega]); (try with_reducible rfl)); simp only [Act.put, List.setIfInBounds_toArray, List.set_cons_zero, List.set_cons_succ])
  ((with_reducible apply E_run); rfl; rfl; (intro w M; go_simp; (try go_ints); (try simp only [↓IntWalk.iteOmega]); (try with_reducible rfl)); simp only [Act.put, List.setIfInBounds_toArray, List.set_cons_zero, List.set_cons_succ])
  ((with_reducible apply E_run (v := .agg ((ad 240).map n8).toArray)); rfl; rfl; (intro w M; exact run_loadX (n := 20) M.r0 rfl Salg.underlying45 rfl size45 (Nat.le_of_ble_eq_true (by kernel_rfl)) (show (txP (Value.slice pd n cd)).toArray.extract 0 (0 + 20) = _ by kernel_rfl)); simp only [Act.put, List.setIfInBounds_toArray, List.set_cons_zero, List.set_cons_succ])
  refine E_call rfl Salg.func85 (by kernel_rfl) (by kernel_rfl) (args := [.pointer (some ⟨c, 0, none⟩), A8 (ad 240)]) rfl ?_
  intro w1 K M
  clear K
  refine (account_S c 119 _ va nv bv cu sl nvb bvb cub nv2 bv2 _ (M.kept.row hc (by simp)) (ch0_0 _ _) (HA.out.kept M.kept)).mono ?_
  rintro e w2 ⟨rfl, K⟩
  replace M := M.call K
  refine ⟨_, rfl, K.mono (by simp), M, ?_⟩
  clear K
  simp only [Act.put, List.setIfInBounds_toArray, List.set_cons_zero, List.set_cons_succ]
  refine E_nil ?_
  intro w3 K M
  clear K
  intro t5 w4 K ht5 M
  clear K
  simp only [Act.put, List.setIfInBounds_toArray, List.set_cons_zero, List.set_cons_succ]
  refine S_seg 7 8 (by kernel_rfl) (by decide) ?_
  simp only [List.take_succ_cons, List.take_zero, List.drop_zero, List.drop_succ_cons, Nat.sub_zero, Nat.reduceSub]
  have HONE := hid (oneT (ac_one HN2.out.one HB2.out.one (cu := nilS) rfl).2)
  go_wp2_with ((with_reducible apply W_storeK (b := t5) (vs := (acB nv2 bv2).cells.toArray)); rfl; rfl; exact M.r0; exact size128; rfl; exact HONE.out; intro w5 K hr3; replace M := Mem.callPut (L1 := []) M (Or.inr ht5) K hr3; clear K hr3; simp only [List.nil_append] at M)
  refine S_done ?_
  have H5 := hid M.r0
  have HTB := hid M.r1
  have HKZ := hid M.kept
  replace HN2 := hid (HN2.out.kept M.kept)
  replace HDV := hid (HDV.out.kept M.kept)
  replace HB2 := hid (HB2.out.kept M.kept)
  replace hc := M.kept.row hc (by simp)
  replace HA := hid (HA.out.kept M.kept)
  replace M := M.here
  go_wp2_with ((with_reducible apply W_loadCell); rfl; exact M.kept.row HTB.out (by simp); exact (show (txP (Value.slice pd n cd)).toArray[42]? = some (n64 200000) by kernel_rfl); exact Salg.underlying23; rfl; simp only [Act.put, List.setIfInBounds_toArray, List.set_cons_zero, List.set_cons_succ])
  refine (num_int _ 200000 rfl (by decide) _).mono ?_
  rintro e w6 ⟨g, rfl, xHG, K⟩
  have HG := hid xHG
  replace M := M.call K
  clear K xHG
  go_wp2_with fail
  refine (fees_any tb (Value.slice pd n cd) _ (M.kept.row HTB.out (by simp))).mono ?_
  rintro e w7 ⟨rfl, K⟩
  replace HG := hid (HG.out.kept K)
  replace M := M.call K
  clear K
  replace hc := M.kept.row hc (by simp)
  replace HTB := hid (M.kept.row HTB.out (by simp))
  replace H5 := hid (M.kept.row H5.out (by simp))
  replace HN2 := hid (HN2.out.kept M.kept)
  replace HDV := hid (HDV.out.kept M.kept)
  replace HB2 := hid (HB2.out.kept M.kept)
  replace HA := hid (HA.out.kept M.kept)
  replace HKZ := hid (HKZ.out.trans M.kept)
  replace M := M.here
  go_wp2_with (first
    | ((with_reducible apply L_allocA (d := 7) M); exact zero46; clear M; intro t7 w8 ht7 M; simp only [Act.put, List.setIfInBounds_toArray, List.set_cons_zero, List.set_cons_succ])
    | ((with_reducible apply L_allocA (d := 8) M); exact zero46; clear M; intro t8 w9 ht8 M; simp only [Act.put, List.setIfInBounds_toArray, List.set_cons_zero, List.set_cons_succ])
    | ((with_reducible apply W_storeK (b := t7) (vs := ((List.replicate 32 0).map n8).toArray)); rfl; rfl; exact M.r1; exact size46; rfl; exact oneL rfl; intro w10 K hr3; replace M := Mem.callPut (L1 := [(t8, _)]) M (Or.inr ht7) K hr3; clear K hr3; simp only [List.cons_append, List.nil_append] at M)
    | ((with_reducible apply W_storeK (b := t8) (vs := ((List.replicate 32 0).map n8).toArray)); rfl; rfl; exact M.r0; exact size46; rfl; exact oneL rfl; intro w11 K hr3; replace M := Mem.callPut (L1 := []) M (Or.inr ht8) K hr3; clear K hr3; simp only [List.nil_append] at M; have H7 := hid M.r1; have H8 := hid M.r0)
    | ((with_reducible apply W_sliceArr (l := 0) (h := 32) (m := 32)); rfl; exact Salg.underlying46; exact size5; (first | exact Or.inl ⟨rfl, rfl⟩ | exact Or.inr ⟨_, _, _, rfl, rfl, by omega⟩); (first | exact Or.inl ⟨rfl, rfl⟩ | exact Or.inr ⟨_, _, _, rfl, rfl, by omega⟩); (first | exact Or.inl ⟨rfl, rfl⟩ | exact Or.inr ⟨_, _, _, rfl, rfl, by omega⟩); (first | exact Or.inl rfl | exact Or.inr rfl); omega; omega; omega; omega; (try simp only [Nat.zero_add, Nat.sub_zero]); simp only [Act.put, List.setIfInBounds_toArray, List.set_cons_zero, List.set_cons_succ]))
  replace hc := M.kept.row hc (by simp)
  replace HTB := hid (M.kept.row HTB.out (by simp))
  replace H5 := hid (M.kept.row H5.out (by simp))
  replace HN2 := hid (HN2.out.kept M.kept)
  replace HDV := hid (HDV.out.kept M.kept)
  replace HB2 := hid (HB2.out.kept M.kept)
  replace HA := hid (HA.out.kept M.kept)
  replace HG := hid (HG.out.kept M.kept)
  replace HKZ := hid (HKZ.out.trans M.kept)
  replace M := M.here
  refine (fromBE_at t7 0 46 32 _ (List.replicate 32 0) _ (M.kept.row H7.out (by simp)) (z32_news 0) (by decide) small32).mono ?_
  rintro e w12 ⟨mo, rfl, xHM, K⟩
  have HM := hid xHM
  replace HG := hid (HG.out.kept K)
  replace M := M.call K
  clear K xHM
  rw [be_zero32] at HM
  go_wp2_with fail
  refine S_region (by kernel_rfl) ?_
  replace HG := hid (HG.out.kept (Kept.refl [] _).drew)
  replace HM := hid (HM.out.kept (Kept.refl [] _).drew)
  refine E_stage 0 8 [0, 1, 3, 4, 2, 5, 6, 7] (by kernel_rfl) M.drew ?_
  clear M
  simp only [List.filterMap_cons, List.filterMap_nil, List.getElem?_cons_zero, List.getElem?_cons_succ]
  ((with_reducible apply E_run); rfl; rfl; (intro w M; go_simp; (try go_ints); (try simp only [↓IntWalk.iteOmega]); (try with_reducible rfl)); simp only [Act.put, List.setIfInBounds_toArray, List.set_cons_zero, List.set_cons_succ])
  ((with_reducible apply E_run); rfl; rfl; (intro w M; go_simp; (try go_ints); (try simp only [↓IntWalk.iteOmega]); (try with_reducible rfl)); simp only [Act.put, List.setIfInBounds_toArray, List.set_cons_zero, List.set_cons_succ])
  ((with_reducible apply E_run); rfl; rfl; (intro w M; go_simp; (try go_ints); (try simp only [↓IntWalk.iteOmega]); (try with_reducible rfl)); simp only [Act.put, List.setIfInBounds_toArray, List.set_cons_zero, List.set_cons_succ])
  ((with_reducible apply E_run); rfl; rfl; (intro w M; exact run_sliceArr (l := 0) (h := 32) (m := 32) rfl Salg.underlying46 size5 (by (first | exact Or.inl ⟨rfl, rfl⟩ | exact Or.inr ⟨_, _, _, rfl, rfl, by omega⟩)) (by (first | exact Or.inl ⟨rfl, rfl⟩ | exact Or.inr ⟨_, _, _, rfl, rfl, by omega⟩)) (by (first | exact Or.inl ⟨rfl, rfl⟩ | exact Or.inr ⟨_, _, _, rfl, rfl, by omega⟩)) (by first | exact Or.inl rfl | exact Or.inr rfl) (by omega) (by omega) (by omega) (by omega)); (try simp only [Nat.zero_add, Nat.sub_zero]); simp only [Act.put, List.setIfInBounds_toArray, List.set_cons_zero, List.set_cons_succ])
  refine E_call rfl Salg.func70 (by kernel_rfl) (by kernel_rfl) (args := [g, mo]) rfl ?_
  intro w1 K M
  replace HG := hid (HG.out.kept K)
  replace HM := hid (HM.out.kept K)
  clear K
  refine (mul_num g mo 200000 0 _ HG.out HM.out (by decide) (by decide)).mono ?_
  rintro e w13 ⟨p1, rfl, xHP1, K⟩
  have HP1 := hid xHP1
  clear xHP1
  replace HG := hid (HG.out.kept K)
  replace HM := hid (HM.out.kept K)
  replace M := M.call K
  refine ⟨_, rfl, trivial, M, ?_⟩
  clear K
  simp only [Act.put, List.setIfInBounds_toArray, List.set_cons_zero, List.set_cons_succ]
  refine E_call rfl Salg.func64 (by kernel_rfl) (by kernel_rfl) (args := [.slice (some ⟨tb, 75, none⟩) 32 32]) rfl ?_
  intro w1 K M
  replace HG := hid (HG.out.kept K)
  replace HM := hid (HM.out.kept K)
  replace HP1 := hid (HP1.out.kept K)
  clear K
  refine (fromBE_at tb 75 49 32 _ (List.replicate 32 0) _ (M.kept.row HTB.out (by simp)) (tx_valD _ _ _) (by decide) small32).mono ?_
  rintro e w14 ⟨p2, rfl, xHP2, K⟩
  have HP2 := hid xHP2
  clear xHP2
  replace HG := hid (HG.out.kept K)
  replace HM := hid (HM.out.kept K)
  replace HP1 := hid (HP1.out.kept K)
  replace M := M.call K
  refine ⟨_, rfl, trivial, M, ?_⟩
  clear K
  simp only [Act.put, List.setIfInBounds_toArray, List.set_cons_zero, List.set_cons_succ]
  rw [be_zero32] at HP2
  refine E_call rfl Salg.func68 (by kernel_rfl) (by kernel_rfl) (args := [p1, p2]) rfl ?_
  intro w1 K M
  replace HG := hid (HG.out.kept K)
  replace HM := hid (HM.out.kept K)
  replace HP1 := hid (HP1.out.kept K)
  replace HP2 := hid (HP2.out.kept K)
  clear K
  refine (add_num p1 p2 0 0 _ HP1.out HP2.out (by decide) (by decide)).mono ?_
  rintro e w15 ⟨ne, rfl, xHNE, K⟩
  have HNE := hid xHNE
  clear xHNE
  replace HG := hid (HG.out.kept K)
  replace HM := hid (HM.out.kept K)
  replace HP1 := hid (HP1.out.kept K)
  replace HP2 := hid (HP2.out.kept K)
  replace M := M.call K
  refine ⟨_, rfl, trivial, M, ?_⟩
  clear K
  simp only [Act.put, List.setIfInBounds_toArray, List.set_cons_zero, List.set_cons_succ]
  ((with_reducible apply E_run); rfl; rfl; (intro w M; go_simp; (try go_ints); (try simp only [↓IntWalk.iteOmega]); (try with_reducible rfl)); simp only [Act.put, List.setIfInBounds_toArray, List.set_cons_zero, List.set_cons_succ])
  refine E_nil ?_
  intro w16 K M
  replace HG := hid (HG.out.kept K)
  replace HM := hid (HM.out.kept K)
  replace HNE := hid (HNE.out.kept K)
  clear K
  clear HP1 HP2
  refine S_done ?_
  go_wp2_with (first
    | ((with_reducible apply W_loadCell); rfl; exact M.kept.row hc (by simp); exact (ch_11 _ _); exact Salg.underlying5; rfl; simp only [Act.put, List.setIfInBounds_toArray, List.set_cons_zero, List.set_cons_succ])
    | ((with_reducible apply W_loadCell); rfl; exact M.kept.row hc (by simp); exact (ch_13 _ _); exact Salg.underlying5; rfl; simp only [Act.put, List.setIfInBounds_toArray, List.set_cons_zero, List.set_cons_succ]))
  refine (num_int _ 1048576 rfl (by decide) _).mono ?_
  rintro e w17 ⟨q1, rfl, xHQ1, K⟩
  have HQ1 := hid xHQ1
  replace HG := hid (HG.out.kept K)
  replace HM := hid (HM.out.kept K)
  replace HNE := hid (HNE.out.kept K)
  replace M := M.call K
  clear K xHQ1
  go_wp2_with fail
  refine (cmp_lit g q1 200000 1048576 (-1) (by decide) _ HG.out HQ1.out).mono ?_
  rintro e w18 ⟨rfl, K⟩
  replace HG := hid (HG.out.kept K)
  replace HM := hid (HM.out.kept K)
  replace HNE := hid (HNE.out.kept K)
  replace M := M.call K
  clear K
  go_wp2_with ((with_reducible apply W_loadCellG); rfl; rfl; exact M.kept.row HTB.out (by simp); exact (show (txP (Value.slice pd n cd)).toArray[107]? = some (Value.slice pd n cd) by kernel_rfl); exact Salg.underlying40; rfl; simp only [Act.put, List.setIfInBounds_toArray, List.set_cons_zero, List.set_cons_succ])
  refine (listOK_any tb (Value.slice pd n cd) _ (M.kept.row HTB.out (by simp))).mono ?_
  rintro e w19 ⟨rfl, K⟩
  replace HG := hid (HG.out.kept K)
  replace HM := hid (HM.out.kept K)
  replace HNE := hid (HNE.out.kept K)
  replace M := M.call K
  clear K
  go_wp2_with fail
  refine S_region (by kernel_rfl) ?_
  replace HG := hid (HG.out.kept (Kept.refl [] _).drew)
  replace HM := hid (HM.out.kept (Kept.refl [] _).drew)
  replace HNE := hid (HNE.out.kept (Kept.refl [] _).drew)
  refine E_stage 0 8 [0, 1, 3, 4, 2, 5, 6, 7] (by kernel_rfl) M.drew ?_
  clear M
  simp only [List.filterMap_cons, List.filterMap_nil, List.getElem?_cons_zero, List.getElem?_cons_succ]
  ((with_reducible apply E_run); rfl; rfl; (intro w M; go_simp; (try go_ints); (try simp only [↓IntWalk.iteOmega]); (try with_reducible rfl)); simp only [Act.put, List.setIfInBounds_toArray, List.set_cons_zero, List.set_cons_succ])
  ((with_reducible apply E_run); rfl; rfl; (intro w M; exact run_loadCell (M.kept.row HTB.out (by simp)) rfl (show (txP (Value.slice pd n cd)).toArray[41]? = some (n64 0) by kernel_rfl) Salg.underlying23 rfl); simp only [Act.put, List.setIfInBounds_toArray, List.set_cons_zero, List.set_cons_succ])
  ((with_reducible apply E_run); rfl; rfl; (intro w M; go_simp; (try go_ints); (try simp only [↓IntWalk.iteOmega]); (try with_reducible rfl)); simp only [Act.put, List.setIfInBounds_toArray, List.set_cons_zero, List.set_cons_succ])
  ((with_reducible apply E_run); rfl; rfl; (intro w M; exact run_loadCell (M.kept.row H5.out (by simp)) rfl (show (acB nv2 bv2).cells.toArray[20]? = some nv2 by kernel_rfl) Salg.underlying89 rfl); simp only [Act.put, List.setIfInBounds_toArray, List.set_cons_zero, List.set_cons_succ])
  refine E_call rfl Salg.func87 (by kernel_rfl) (by kernel_rfl) (args := [.int .u64 0]) rfl ?_
  intro w1 K M
  replace HG := hid (HG.out.kept K)
  replace HM := hid (HM.out.kept K)
  replace HNE := hid (HNE.out.kept K)
  clear K
  refine (num_int _ 0 rfl (by decide) _).mono ?_
  rintro e w20 ⟨q2, rfl, xHQ2, K⟩
  have HQ2 := hid xHQ2
  clear xHQ2
  replace HG := hid (HG.out.kept K)
  replace HM := hid (HM.out.kept K)
  replace HNE := hid (HNE.out.kept K)
  replace M := M.call K
  refine ⟨_, rfl, trivial, M, ?_⟩
  clear K
  simp only [Act.put, List.setIfInBounds_toArray, List.set_cons_zero, List.set_cons_succ]
  refine E_call rfl Salg.func72 (by kernel_rfl) (by kernel_rfl) (args := [q2, nv2]) rfl ?_
  intro w1 K M
  replace HG := hid (HG.out.kept K)
  replace HM := hid (HM.out.kept K)
  replace HNE := hid (HNE.out.kept K)
  replace HQ2 := hid (HQ2.out.kept K)
  clear K
  refine (cmp_lit q2 nv2 0 0 0 (by decide) _ HQ2.out (HN2.out.kept M.kept)).mono ?_
  rintro e w21 ⟨rfl, K⟩
  replace HG := hid (HG.out.kept K)
  replace HM := hid (HM.out.kept K)
  replace HNE := hid (HNE.out.kept K)
  replace HQ2 := hid (HQ2.out.kept K)
  replace M := M.call K
  refine ⟨_, rfl, trivial, M, ?_⟩
  clear K
  simp only [Act.put, List.setIfInBounds_toArray, List.set_cons_zero, List.set_cons_succ]
  ((with_reducible apply E_run); rfl; rfl; (intro w M; go_simp; (try go_ints); (try simp only [↓IntWalk.iteOmega]); (try with_reducible rfl)); simp only [Act.put, List.setIfInBounds_toArray, List.set_cons_zero, List.set_cons_succ])
  ((with_reducible apply E_run); rfl; rfl; (intro w M; go_simp; (try go_ints); (try simp only [↓IntWalk.iteOmega]); (try with_reducible rfl)); simp only [Act.put, List.setIfInBounds_toArray, List.set_cons_zero, List.set_cons_succ])
  refine E_nil ?_
  intro w22 K M
  replace HG := hid (HG.out.kept K)
  replace HM := hid (HM.out.kept K)
  replace HNE := hid (HNE.out.kept K)
  clear K
  refine S_done ?_
  go_wp2_with fail
  refine S_region (by kernel_rfl) ?_
  replace HG := hid (HG.out.kept (Kept.refl [] _).drew)
  replace HM := hid (HM.out.kept (Kept.refl [] _).drew)
  replace HNE := hid (HNE.out.kept (Kept.refl [] _).drew)
  refine E_stage 0 6 [0, 1, 2, 3, 4, 5] (by kernel_rfl) M.drew ?_
  clear M
  simp only [List.filterMap_cons, List.filterMap_nil, List.getElem?_cons_zero, List.getElem?_cons_succ]
  ((with_reducible apply E_run); rfl; rfl; (intro w M; go_simp; (try go_ints); (try simp only [↓IntWalk.iteOmega]); (try with_reducible rfl)); simp only [Act.put, List.setIfInBounds_toArray, List.set_cons_zero, List.set_cons_succ])
  ((with_reducible apply E_run); rfl; rfl; (intro w M; exact run_loadCell (M.kept.row H5.out (by simp)) rfl (show (acB nv2 bv2).cells.toArray[20]? = some nv2 by kernel_rfl) Salg.underlying89 rfl); simp only [Act.put, List.setIfInBounds_toArray, List.set_cons_zero, List.set_cons_succ])
  refine E_call rfl Salg.func87 (by kernel_rfl) (by kernel_rfl) (args := [.int .u64 18446744073709551615]) rfl ?_
  intro w1 K M
  replace HG := hid (HG.out.kept K)
  replace HM := hid (HM.out.kept K)
  replace HNE := hid (HNE.out.kept K)
  clear K
  refine (num_int _ 18446744073709551615 rfl (by decide) _).mono ?_
  rintro e w23 ⟨q3, rfl, xHQ3, K⟩
  have HQ3 := hid xHQ3
  clear xHQ3
  replace HG := hid (HG.out.kept K)
  replace HM := hid (HM.out.kept K)
  replace HNE := hid (HNE.out.kept K)
  replace M := M.call K
  refine ⟨_, rfl, trivial, M, ?_⟩
  clear K
  simp only [Act.put, List.setIfInBounds_toArray, List.set_cons_zero, List.set_cons_succ]
  refine E_call rfl Salg.func72 (by kernel_rfl) (by kernel_rfl) (args := [nv2, q3]) rfl ?_
  intro w1 K M
  replace HG := hid (HG.out.kept K)
  replace HM := hid (HM.out.kept K)
  replace HNE := hid (HNE.out.kept K)
  replace HQ3 := hid (HQ3.out.kept K)
  clear K
  refine (cmp_lit nv2 q3 0 18446744073709551615 (-1) (by decide) _ (HN2.out.kept M.kept) HQ3.out).mono ?_
  rintro e w24 ⟨rfl, K⟩
  replace HG := hid (HG.out.kept K)
  replace HM := hid (HM.out.kept K)
  replace HNE := hid (HNE.out.kept K)
  replace HQ3 := hid (HQ3.out.kept K)
  replace M := M.call K
  refine ⟨_, rfl, trivial, M, ?_⟩
  clear K
  simp only [Act.put, List.setIfInBounds_toArray, List.set_cons_zero, List.set_cons_succ]
  ((with_reducible apply E_run); rfl; rfl; (intro w M; go_simp; (try go_ints); (try simp only [↓IntWalk.iteOmega]); (try with_reducible rfl)); simp only [Act.put, List.setIfInBounds_toArray, List.set_cons_zero, List.set_cons_succ])
  ((with_reducible apply E_run); rfl; rfl; (intro w M; go_simp; (try go_ints); (try simp only [↓IntWalk.iteOmega]); (try with_reducible rfl)); simp only [Act.put, List.setIfInBounds_toArray, List.set_cons_zero, List.set_cons_succ])
  refine E_nil ?_
  intro w25 K M
  replace HG := hid (HG.out.kept K)
  replace HM := hid (HM.out.kept K)
  replace HNE := hid (HNE.out.kept K)
  clear K
  refine S_done ?_
  go_wp2_with (first
    | ((with_reducible apply W_loadCell); rfl; exact M.kept.row H5.out (by simp); exact (show (acB nv2 bv2).cells.toArray[22]? = some nilS by kernel_rfl); exact Salg.underlying40; rfl; simp only [Act.put, List.setIfInBounds_toArray, List.set_cons_zero, List.set_cons_succ])
    | ((with_reducible apply W_loadCell); rfl; exact M.kept.row HTB.out (by simp); exact (show (txP (Value.slice pd n cd)).toArray[40]? = some (.bool false) by kernel_rfl); exact Salg.underlying4; rfl; simp only [Act.put, List.setIfInBounds_toArray, List.set_cons_zero, List.set_cons_succ])
    | ((with_reducible apply W_loadAll); rfl; exact M.kept.row HTB.out (by simp); exact Salg.underlying49; rfl; exact size49; simp only [Act.put, List.setIfInBounds_toArray, List.set_cons_zero, List.set_cons_succ]))
  refine (intrinsic_data (Value.slice pd n cd) ds _ (HDV.out.kept M.kept) (by rw [HDL.out]; exact hn96)).mono ?_
  rintro e w26 ⟨q4, I, rfl, xHQ4, hI1, hI2, K⟩
  rw [HDL.out] at hI2
  have HQ4 := hid xHQ4
  replace HG := hid (HG.out.kept K)
  replace HM := hid (HM.out.kept K)
  replace HNE := hid (HNE.out.kept K)
  replace M := M.call K
  clear K xHQ4
  go_wp2_with fail
  refine (cmp_lit g q4 200000 I (1) (cmpI_gt (by omega)) _ HG.out HQ4.out).mono ?_
  rintro e w27 ⟨rfl, K⟩
  replace HG := hid (HG.out.kept K)
  replace HM := hid (HM.out.kept K)
  replace HNE := hid (HNE.out.kept K)
  replace M := M.call K
  clear K
  go_wp2_with ((with_reducible apply W_loadCell); rfl; exact M.kept.row hc (by simp); exact (ch_81 _ _); exact Salg.underlying23; rfl; simp only [Act.put, List.setIfInBounds_toArray, List.set_cons_zero, List.set_cons_succ])
  refine (num_int _ 1048576 rfl (by decide) _).mono ?_
  rintro e w28 ⟨q5, rfl, xHQ5, K⟩
  have HQ5 := hid xHQ5
  replace HG := hid (HG.out.kept K)
  replace HM := hid (HM.out.kept K)
  replace HNE := hid (HNE.out.kept K)
  replace M := M.call K
  clear K xHQ5
  go_wp2_with fail
  refine (cmp_lit g q5 200000 1048576 (-1) (by decide) _ HG.out HQ5.out).mono ?_
  rintro e w29 ⟨rfl, K⟩
  replace HM := hid (HM.out.kept K)
  replace HNE := hid (HNE.out.kept K)
  replace M := M.call K
  clear K
  go_wp2_with ((with_reducible apply W_loadCell); rfl; exact M.kept.row H5.out (by simp); exact (show (acB nv2 bv2).cells.toArray[21]? = some bv2 by kernel_rfl); exact Salg.underlying89; rfl; simp only [Act.put, List.setIfInBounds_toArray, List.set_cons_zero, List.set_cons_succ])
  refine (cmp_lit bv2 ne 340282366920938463463374607431768211456 0 (1) (by decide) _ (HB2.out.kept M.kept) HNE.out).mono ?_
  rintro e w30 ⟨rfl, K⟩
  replace HM := hid (HM.out.kept K)
  replace M := M.call K
  clear K
  go_wp2_with ((with_reducible apply W_sliceArr (l := 0) (h := 32) (m := 32)); rfl; exact Salg.underlying46; exact size5; (first | exact Or.inl ⟨rfl, rfl⟩ | exact Or.inr ⟨_, _, _, rfl, rfl, by omega⟩); (first | exact Or.inl ⟨rfl, rfl⟩ | exact Or.inr ⟨_, _, _, rfl, rfl, by omega⟩); (first | exact Or.inl ⟨rfl, rfl⟩ | exact Or.inr ⟨_, _, _, rfl, rfl, by omega⟩); (first | exact Or.inl rfl | exact Or.inr rfl); omega; omega; omega; omega; (try simp only [Nat.zero_add, Nat.sub_zero]); simp only [Act.put, List.setIfInBounds_toArray, List.set_cons_zero, List.set_cons_succ])
  refine (fromBE_at t8 0 46 32 _ (List.replicate 32 0) _ (M.kept.row H8.out (by simp)) (z32_news 0) (by decide) small32).mono ?_
  rintro e w31 ⟨q6, rfl, xHQ6, K⟩
  have HQ6 := hid xHQ6
  replace HM := hid (HM.out.kept K)
  replace M := M.call K
  clear K xHQ6
  rw [be_zero32] at HQ6
  go_wp2_with fail
  refine (cmp_lit q6 mo 0 0 (0) (by decide) _ HQ6.out HM.out).mono ?_
  rintro e w32 ⟨rfl, K⟩
  replace HM := hid (HM.out.kept K)
  replace M := M.call K
  clear K
  go_wp2_with fail
  refine (baseFee_any c 119 _ _ (M.kept.row hc (by simp)) (chL_fee rfl rfl rfl) (ch0_size _ _)).mono ?_
  rintro e w33 ⟨q7, rfl, xHQ7, K⟩
  have HQ7 := hid xHQ7
  replace HM := hid (HM.out.kept K)
  replace M := M.call K
  clear K xHQ7
  go_wp2_with fail
  refine (cmp_lit mo q7 0 0 (0) (by decide) _ HM.out HQ7.out).mono ?_
  rintro e w34 ⟨rfl, K⟩
  replace M := M.call K
  clear K
  go_wp2_with fail
  go_ret
  exact ⟨rfl, HKZ.out.trans M.kept⟩
end Go.Proofs.YgcsalGreat

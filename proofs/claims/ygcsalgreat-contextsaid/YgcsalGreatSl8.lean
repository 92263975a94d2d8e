/-
  The walk of yp.New on three accounts, and law.specOf on them.
-/
import Derived.Test.YgcsalGreatSl7
import Derived.Test.YgcsalGreatSl4
import Derived.Test.YgcsalGreatMv33
set_option linter.unusedSimpArgs false
set_option linter.unusedVariables false
namespace Go.Own
theorem oaN_x (n : Nat) (u : Value) : (oaN n u).cells.toArray.extract 0 (0 + 20) = ((ad n).map n8).toArray := by kernel_rfl
theorem oaN_bal (n : Nat) (u : Value) : ∀ (i x : Nat), (List.replicate 32 0)[i]? = some x → (oaN n u).cells.toArray[21 + i]? = some (n8 x) := by
  intro i x hx
  rw [List.getElem?_toArray]
  have hlt : i < 32 := by simpa using (List.getElem?_eq_some_iff.1 hx).1
  rw [oaN, Oa.cells, List.getElem?_append_right (by simp [ad]; omega)]
  simp only [List.length_map, ad, List.length_cons, List.length_nil, List.singleton_append, show 21 + i - (0 + 1 + 1 + 1 + 1 + 1 + 1 + 1 + 1 + 1 + 1 + 1 + 1 + 1 + 1 + 1 + 1 + 1 + 1 + 1 + 1) = i + 1 by omega, List.getElem?_cons_succ]
  rw [List.getElem?_append_left (by simpa using hlt), List.getElem?_map, hx]
  rfl
end Go.Own
namespace Go.Proofs.YgcsalGreat
open Go.RowKit Go.Own

set_option maxHeartbeats 4000000 in
set_option maxRecDepth 100000 in
theorem new_three (v u1 u2 : Value) (ds1 ds2 : List Nat) (w : World) (hv : OasV w v [oaN 1 u1, oaN 2 u2, oaB]) (hu1 : NatV w u1 ds1) (hu2 : NatV w u2 ds2) :
    Calls Salg.prog 80 #[v, .agg envL.toArray] w fun e w' => ∃ (c : Nat) (va tv nv bv cu nv2 bv2 cu2 nv3 bv3 : Value), e = .returned (.tuple #[.pointer (some ⟨c, 0, none⟩), .bool true]) ∧ w'.heap[c]? = some (.cells (ch0 va tv) 119 (0, 0)) ∧ AcsV w' va (l3 nv bv cu nilS nv2 bv2 cu2 nv3 bv3) ∧ NumV w' nv 1 ∧ NumV w' bv 0 ∧ NatV w' cu ds1 ∧ NumV w' nv2 1 ∧ NumV w' bv2 0 ∧ NatV w' cu2 ds2 ∧ NumV w' nv3 0 ∧ NumV w' bv3 340282366920938463463374607431768211456 ∧ NumV w' tv 340282366920938463463374607431768211456 ∧ w.heap.size ≤ c ∧ Kept [] w w' := by
  have M := Mem.start w []
  have hso : ∀ i (hi : i + 1 < [oaN 1 u1, oaN 2 u2, oaB].length), adLt [oaN 1 u1, oaN 2 u2, oaB][i].adr [oaN 1 u1, oaN 2 u2, oaB][i + 1].adr = true := by
    intro i hi
    obtain rfl | rfl : i = 0 ∨ i = 1 := by simp at hi; omega
    · rfl
    · rfl
  have hzz : ∀ i (hi : i + 1 < [oaN 1 u1, oaN 2 u2, oaB].length), [oaN 1 u1, oaN 2 u2, oaB][i].bal = List.replicate 32 0 := by
    intro i hi
    obtain rfl | rfl : i = 0 ∨ i = 1 := by simp at hi; omega
    · rfl
    · rfl
  have HWO := hid (fun w' (K : Kept [] w w') => worldOK_any v _ w' (hv.kept K) (by simp) (by simp) hso hzz)
  clear hso hzz
  obtain ⟨g, cap, cur, rfl, hg, hsz, hcur⟩ := hv.row (by simp)
  have hsz2 : 165 ≤ cur.size := hsz
  have HEX0 : Hid (cur.extract 0 (0 + 55) = (oaN 1 u1).cells.toArray) := extract_list (by kernel_rfl) (by omega) (fun k hk => by simpa using hcur 0 k (by simp) hk)
  have HEX1 : Hid (cur.extract 55 (55 + 55) = (oaN 2 u2).cells.toArray) := extract_list (by kernel_rfl) (by omega) (fun k hk => by simpa using hcur 1 k (by simp) hk)
  have HEX2 : Hid (cur.extract 110 (110 + 55) = oaB.cells.toArray) := extract_list (by kernel_rfl) (by omega) (fun k hk => by simpa using hcur 2 k (by simp) hk)
  have HU1 := hid hu1
  have HU2 := hid hu2
  clear hv hcur hsz hu1 hu2
  simp only [List.length_cons, List.length_nil] at *
  go_enter Salg.func80, Salg.ntmps80
  go_wp2_with ((with_reducible apply L_box M); rfl; clear M; intro eb w1 heb M; simp only [Act.put, List.setIfInBounds_toArray, List.set_cons_zero, List.set_cons_succ])
  refine (HWO.out _ M.kept).mono ?_
  rintro e w2 ⟨rfl, K⟩
  replace M := M.call K
  clear K
  go_wp2_with ((with_reducible apply W_loadAllG); rfl; rfl; exact M.r0; exact Salg.underlying106; rfl; exact size106; simp only [Act.put, List.setIfInBounds_toArray, List.set_cons_zero, List.set_cons_succ])
  refine (envOK_any _).mono ?_
  rintro e w3 ⟨rfl, K⟩
  replace M := M.call K
  clear K
  go_wp2_with (first
    | ((with_reducible apply L_allocA (d := 20) M); exact zero119; clear M; intro c w4 hc M; simp only [Act.put, List.setIfInBounds_toArray, List.set_cons_zero, List.set_cons_succ])
    | ((with_reducible apply W_loadAll); rfl; exact M.r1; exact Salg.underlying106; rfl; exact size106; simp only [Act.put, List.setIfInBounds_toArray, List.set_cons_zero, List.set_cons_succ])
    | ((with_reducible apply W_stP (b := c) (o := 59) (n := 120) (v := .agg envL.toArray) (rs := ch0 nilS nilS)); rfl; rfl; exact M.r0; exact size106; kernel_rfl; exact oneL rfl; decide; exact zch_env; intro w5 K hr3; replace M := Mem.callPut (L1 := []) M (Or.inr hc) K hr3; clear K hr3; simp only [List.nil_append] at M)
    | ((with_reducible apply W_loadCell); rfl; exact M.r1; exact (show envL.toArray[119]? = some nilS by kernel_rfl); exact Salg.underlying54; rfl; simp only [Act.put, List.setIfInBounds_toArray, List.set_cons_zero, List.set_cons_succ]))
  refine (wordsOf_nil _).mono ?_
  rintro e w6 ⟨rfl, hw⟩
  replace hw := hw.symm
  subst hw
  go_wp2_with ((with_reducible apply W_stV (b := c) (o := 178) (v := nilS)); rfl; rfl; rfl; exact M.r0; exact size54; (rw [ch0_size]; decide); intro w7 K hr3; rw [ch0_s178] at hr3; replace M := Mem.callPut (L1 := []) M (Or.inr hc) K hr3; clear K hr3; simp only [List.nil_append] at M)
  replace M : Mem w [] [(c, .cells (ch0 nilS nilS) 119 (0, 0))] _ := M.sub (by simp)
  go_loopw [36] (fun iv wr => (iv = .int .i64 0 ∧ Mem w [] [(c, .cells (ch0 nilS nilS) 119 (0, 0))] wr) ∨
    (iv = .int .i64 1 ∧ ∃ (va tv nv bv cu : Value) (base : Nat), Mem w [] [(c, .cells (ch0 va tv) 119 (0, 0))] wr ∧ w.heap.size ≤ base ∧ c < base ∧ base ≤ wr.heap.size ∧ wr.ownsRow base 128 24 va 1 ((acN 1 nv bv cu nilS).cells) ∧ NumV wr nv 1 ∧ NumV wr bv 0 ∧ NatV wr cu ds1 ∧ NumV wr tv 0) ∨
    (iv = .int .i64 2 ∧ ∃ (va tv nv bv cu nv2 bv2 cu2 : Value) (base : Nat), Mem w [] [(c, .cells (ch0 va tv) 119 (0, 0))] wr ∧ w.heap.size ≤ base ∧ c < base ∧ base ≤ wr.heap.size ∧ wr.ownsRow base 128 24 va 2 ((acN 1 nv bv cu nilS).cells ++ (acN 2 nv2 bv2 cu2 nilS).cells) ∧ NumV wr nv 1 ∧ NumV wr bv 0 ∧ NatV wr cu ds1 ∧ NumV wr nv2 1 ∧ NumV wr bv2 0 ∧ NatV wr cu2 ds2 ∧ NumV wr tv 0) ∨
    (iv = .int .i64 3 ∧ ∃ (va tv nv bv cu nv2 bv2 cu2 nv3 bv3 : Value) (base : Nat), Mem w [] [(c, .cells (ch0 va tv) 119 (0, 0))] wr ∧ w.heap.size ≤ base ∧ c < base ∧ base ≤ wr.heap.size ∧ wr.ownsRow base 128 24 va 3 ((acN 1 nv bv cu nilS).cells ++ (acN 2 nv2 bv2 cu2 nilS).cells ++ (acN 240 nv3 bv3 nilS nilS).cells) ∧ NumV wr nv 1 ∧ NumV wr bv 0 ∧ NatV wr cu ds1 ∧ NumV wr nv2 1 ∧ NumV wr bv2 0 ∧ NatV wr cu2 ds2 ∧ NumV wr nv3 0 ∧ NumV wr bv3 340282366920938463463374607431768211456 ∧ NumV wr tv 340282366920938463463374607431768211456)) (fun iv _ => (3 - intOf iv).toNat)
  case atStart => exact .inl ⟨rfl, M⟩
  case round =>
    clear M
    rcases hrel with ⟨rfl, M⟩ | ⟨rfl, va, tv, nv, bv, cu, base, M, hb1, hcb, hb2, xO, xHnv, xHbv, xHcu, xTV⟩ | ⟨rfl, va, tv, nv, bv, cu, nv2, bv2, cu2, base, M, hb1, hcb, hb2, xO, xHnv, xHbv, xHcu, xHnv2, xHbv2, xHcu2, xTV⟩ | ⟨rfl, va, tv, nv, bv, cu, nv2, bv2, cu2, nv3, bv3, base, M, hb1, hcb, hb2, xO, xHnv, xHbv, xHcu, xHnv2, xHbv2, xHcu2, xHnv3, xHbv3, xTV⟩
    · skip
      have HWR := hid M.kept
      have HRC := hid M.r0
      obtain ⟨B, hB⟩ : ∃ B : Nat, B = wr.heap.size := ⟨_, rfl⟩
      have hcr : c < B := by rw [hB]; exact lt_of_row HRC.out
      have hBw : w.heap.size ≤ B := by rw [hB]; exact HWR.out.size
      have MW := M
      replace M := Mem.start wr []
      go_wp2_with (first
        | ((with_reducible apply W_loadX (b := g) (o := 0) (n := 55) (cs := cur) (vs := (oaN 1 u1).cells.toArray)); rfl; exact HWR.out.row hg (by simp); exact Salg.underlying123; rfl; exact size123; omega; exact HEX0.out; simp only [Act.put, List.setIfInBounds_toArray, List.set_cons_zero, List.set_cons_succ])
        | ((with_reducible apply L_allocA (d := 8) M); exact zero123; clear M; intro t8 w1 ht8 M; simp only [Act.put, List.setIfInBounds_toArray, List.set_cons_zero, List.set_cons_succ])
        | ((with_reducible apply W_storeK (b := t8) (vs := (oaN 1 u1).cells.toArray)); rfl; rfl; exact M.r0; exact size123; rfl; exact oneT (oaN_one _ HU1.out.one); intro w3 K hr3; replace M := Mem.callPut (L1 := []) M (Or.inr ht8) K hr3; clear K hr3; simp only [List.nil_append] at M))
      refine S_region (by kernel_rfl) ?_
      refine E_float 0 13 [0, 1, 2, 3, 5, 6, 8, 9, 4, 7, 10, 11] 12 9 _ (by kernel_rfl) ⟨⟨_, _, _, _, _, rfl, zero128, rfl⟩⟩ (by simp) M.drew ?_
      clear M
      simp only [List.filterMap_cons, List.filterMap_nil, List.getElem?_cons_zero, List.getElem?_cons_succ]
      ((with_reducible apply E_run); rfl; rfl; (intro w M; go_simp; (try go_ints); (try simp only [↓IntWalk.iteOmega]); (try with_reducible rfl)); simp only [Act.put, List.setIfInBounds_toArray, List.set_cons_zero, List.set_cons_succ])
      ((with_reducible apply E_run (v := .agg ((ad 1).map n8).toArray)); rfl; rfl; (intro w M; exact run_loadX (n := 20) M.r0 rfl Salg.underlying45 rfl size45 (Nat.le_of_ble_eq_true (by kernel_rfl)) (oaN_x 1 u1)); simp only [Act.put, List.setIfInBounds_toArray, List.set_cons_zero, List.set_cons_succ])
      ((with_reducible apply E_run); rfl; rfl; (intro w M; go_simp; (try go_ints); (try simp only [↓IntWalk.iteOmega]); (try with_reducible rfl)); simp only [Act.put, List.setIfInBounds_toArray, List.set_cons_zero, List.set_cons_succ])
      ((with_reducible apply E_run); rfl; rfl; (intro w M; exact run_loadCell (M.r0) rfl (show (oaN 1 u1).cells.toArray[20]? = some (n64 1) by kernel_rfl) Salg.underlying23 rfl); simp only [Act.put, List.setIfInBounds_toArray, List.set_cons_zero, List.set_cons_succ])
      ((with_reducible apply E_run); rfl; rfl; (intro w M; go_simp; (try go_ints); (try simp only [↓IntWalk.iteOmega]); (try with_reducible rfl)); simp only [Act.put, List.setIfInBounds_toArray, List.set_cons_zero, List.set_cons_succ])
      ((with_reducible apply E_run); rfl; rfl; (intro w M; exact run_sliceArr (l := 0) (h := 32) (m := 32) rfl Salg.underlying46 size5 (by (first | exact Or.inl ⟨rfl, rfl⟩ | exact Or.inr ⟨_, _, _, rfl, rfl, by omega⟩)) (by (first | exact Or.inl ⟨rfl, rfl⟩ | exact Or.inr ⟨_, _, _, rfl, rfl, by omega⟩)) (by (first | exact Or.inl ⟨rfl, rfl⟩ | exact Or.inr ⟨_, _, _, rfl, rfl, by omega⟩)) (by first | exact Or.inl rfl | exact Or.inr rfl) (by omega) (by omega) (by omega) (by omega)); (try simp only [Nat.zero_add, Nat.sub_zero]); simp only [Act.put, List.setIfInBounds_toArray, List.set_cons_zero, List.set_cons_succ])
      ((with_reducible apply E_run); rfl; rfl; (intro w M; go_simp; (try go_ints); (try simp only [↓IntWalk.iteOmega]); (try with_reducible rfl)); simp only [Act.put, List.setIfInBounds_toArray, List.set_cons_zero, List.set_cons_succ])
      ((with_reducible apply E_run); rfl; rfl; (intro w M; exact run_loadCell (M.r0) rfl (show (oaN 1 u1).cells.toArray[53]? = some u1 by kernel_rfl) Salg.underlying40 rfl); simp only [Act.put, List.setIfInBounds_toArray, List.set_cons_zero, List.set_cons_succ])
      refine E_call rfl Salg.func87 (by kernel_rfl) (by kernel_rfl) (args := [n64 1]) rfl ?_
      intro w1 K M
      clear K
      refine (num_int _ 1 rfl (by decide) _).mono ?_
      rintro e w4 ⟨nv, rfl, xHnv, K⟩
      have Hnv := hid xHnv
      clear xHnv
      replace M := M.call K
      refine ⟨_, rfl, K.mono (by simp), M, ?_⟩
      clear K
      simp only [Act.put, List.setIfInBounds_toArray, List.set_cons_zero, List.set_cons_succ]
      refine E_call rfl Salg.func64 (by kernel_rfl) (by kernel_rfl) (args := [.slice (some ⟨t8, 21, none⟩) 32 32]) rfl ?_
      intro w1 K M
      replace Hnv := hid (Hnv.out.kept K)
      clear K
      refine (fromBE_at t8 21 123 32 _ (List.replicate 32 0) _ M.r0 (oaN_bal 1 u1) (by decide) small32).mono ?_
      rintro e w5 ⟨bv, rfl, xHbv, K⟩
      have Hbv := hid xHbv
      clear xHbv
      replace Hnv := hid (Hnv.out.kept K)
      replace M := M.call K
      refine ⟨_, rfl, K.mono (by simp), M, ?_⟩
      clear K
      simp only [Act.put, List.setIfInBounds_toArray, List.set_cons_zero, List.set_cons_succ]
      refine E_call rfl Salg.func96 (by kernel_rfl) (by kernel_rfl) (args := [u1]) rfl ?_
      intro w1 K M
      replace Hnv := hid (Hnv.out.kept K)
      replace Hbv := hid (Hbv.out.kept K)
      clear K
      refine (bytesOf_all u1 ds1 _ (HU1.out.kept (HWR.out.trans M.kept))).mono ?_
      rintro e w6 ⟨cu, rfl, xHcu, K⟩
      have Hcu := hid xHcu
      clear xHcu
      replace Hnv := hid (Hnv.out.kept K)
      replace Hbv := hid (Hbv.out.kept K)
      replace M := M.call K
      refine ⟨_, rfl, K.mono (by simp), M, ?_⟩
      clear K
      simp only [Act.put, List.setIfInBounds_toArray, List.set_cons_zero, List.set_cons_succ]
      rw [be_zero32] at Hbv
      ((with_reducible apply E_run (v := .agg (acN 1 nv bv cu nilS).cells.toArray)); rfl; rfl; (intro w M; obtain ⟨p0, n0, c0, e0⟩ := Hnv.out.slice; subst e0; obtain ⟨p1, n1, c1, e1⟩ := Hbv.out.slice; subst e1; obtain ⟨p2, n2, c2, e2⟩ := Hcu.out.slice; subst e2; kernel_rfl); simp only [Act.put, List.setIfInBounds_toArray, List.set_cons_zero, List.set_cons_succ])
      refine E_nil ?_
      intro w7 K M
      replace Hnv := hid (Hnv.out.kept K)
      replace Hbv := hid (Hbv.out.kept K)
      replace Hcu := hid (Hcu.out.kept K)
      clear K
      intro t9 w8 K ht9 M
      replace Hnv := hid (Hnv.out.kept K)
      replace Hbv := hid (Hbv.out.kept K)
      replace Hcu := hid (Hcu.out.kept K)
      clear K
      simp only [Act.put, List.setIfInBounds_toArray, List.set_cons_zero, List.set_cons_succ]
      refine S_seg 13 14 (by kernel_rfl) (by decide) ?_
      simp only [List.take_succ_cons, List.take_zero, List.drop_zero, List.drop_succ_cons, Nat.sub_zero, Nat.reduceSub]
      have HNB9 := hid (not_bytes_at (cs := (z8 20 ++ [nilS, nilS, nilS, nilS]).toArray) (tc := 128) (i := 20) (p := none) (n := 0) (m := 0) (by kernel_rfl))
      go_wp2_with ((with_reducible apply W_storeK (b := t9) (vs := (acN 1 nv bv cu nilS).cells.toArray)); rfl; rfl; exact M.r0; exact size128; rfl; exact oneT (acN_one (n := 1) Hnv.out.one Hbv.out.one Hcu.out.one (sl := nilS) rfl); intro w3 K hr3; replace Hnv := hid (Hnv.out.keptC K M.r0 HNB9.out); replace Hbv := hid (Hbv.out.keptC K M.r0 HNB9.out); replace Hcu := hid (Hcu.out.keptC K M.r0 HNB9.out); replace M := Mem.callPut (L1 := []) M (Or.inr ht9) K hr3; clear K hr3; simp only [List.nil_append] at M)
      refine S_done ?_
      go_wp2_with ((with_reducible apply W_loadCell); rfl; exact M.r1; exact (show (oaN 1 u1).cells.toArray[54]? = some nilS by kernel_rfl); exact Salg.underlying121; rfl; simp only [Act.put, List.setIfInBounds_toArray, List.set_cons_zero, List.set_cons_succ])
      go_loopw [55] (fun iv wx => iv = .int .i64 0 ∧ Mem wr [] [(t9, .cells (acN 1 nv bv cu nilS).cells.toArray 128 (0, 0)), (t8, .cells (oaN 1 u1).cells.toArray 123 (0, 0))] wx ∧ NumV wx nv 1 ∧ NumV wx bv 0 ∧ NatV wx cu ds1) (fun _ _ => 0)
      case atStart => exact ⟨rfl, M, Hnv.out, Hbv.out, Hcu.out⟩
      case round =>
        clear M Hnv Hbv Hcu
        obtain ⟨rfl, M, xHnv, xHbv, xHcu⟩ := hrel
        have Hnv := hid xHnv
        have Hbv := hid xHbv
        have Hcu := hid xHcu
        clear xHnv xHbv xHcu
        have HKW := hid M.kept
        have h9c : t9 ≠ c := by rw [← hB] at ht9; omega
        replace M := (MW.call M.kept).add M.r0 (by intro p hp; simp at hp; subst hp; exact h9c)
        go_wp2_with fail
        refine S_region (by kernel_rfl) ?_
        replace Hnv := hid (Hnv.out.kept (Kept.refl [] _).drew)
        replace Hbv := hid (Hbv.out.kept (Kept.refl [] _).drew)
        replace Hcu := hid (Hcu.out.kept (Kept.refl [] _).drew)
        have hbw := Nat.le_trans (Nat.le_of_eq hB) HKW.out.size
        refine E_stage 0 10 [0, 1, 2, 3, 4, 5, 6, 7, 8, 9] (by kernel_rfl) M.drew ?_
        clear M
        simp only [List.filterMap_cons, List.filterMap_nil, List.getElem?_cons_zero, List.getElem?_cons_succ]
        ((with_reducible apply E_run); rfl; rfl; (intro w M; go_simp; (try go_ints); (try simp only [↓IntWalk.iteOmega]); (try with_reducible rfl)); simp only [Act.put, List.setIfInBounds_toArray, List.set_cons_zero, List.set_cons_succ])
        ((with_reducible apply E_run); rfl; rfl; (intro w M; go_simp; (try go_ints); (try simp only [↓IntWalk.iteOmega]); (try with_reducible rfl)); simp only [Act.put, List.setIfInBounds_toArray, List.set_cons_zero, List.set_cons_succ])
        ((with_reducible apply E_run); rfl; rfl; (intro w M; go_simp; (try go_ints); (try simp only [↓IntWalk.iteOmega]); (try with_reducible rfl)); simp only [Act.put, List.setIfInBounds_toArray, List.set_cons_zero, List.set_cons_succ])
        ((with_reducible apply E_run); rfl; rfl; (intro w M; go_simp; (try go_ints); (try simp only [↓IntWalk.iteOmega]); (try with_reducible rfl)); simp only [Act.put, List.setIfInBounds_toArray, List.set_cons_zero, List.set_cons_succ])
        ((with_reducible apply E_run); rfl; rfl; (intro w M; go_simp; (try go_ints); (try simp only [↓IntWalk.iteOmega]); (try with_reducible rfl)); simp only [Act.put, List.setIfInBounds_toArray, List.set_cons_zero, List.set_cons_succ])
        ((with_reducible apply E_run); rfl; rfl; (intro w M; go_simp; (try go_ints); (try simp only [↓IntWalk.iteOmega]); (try with_reducible rfl)); simp only [Act.put, List.setIfInBounds_toArray, List.set_cons_zero, List.set_cons_succ])
        ((with_reducible apply E_run); rfl; rfl; (intro w M; exact run_loadCell (M.r1) rfl (ch0_0 _ _) Salg.underlying108 rfl); simp only [Act.put, List.setIfInBounds_toArray, List.set_cons_zero, List.set_cons_succ])
        ((with_reducible apply E_run); rfl; rfl; (intro w M; exact run_loadAll M.r0 rfl Salg.underlying128 rfl (by kernel_rfl)); simp only [Act.put, List.setIfInBounds_toArray, List.set_cons_zero, List.set_cons_succ])
        refine E_buildIt (vs := (acN 1 nv bv cu nilS).cells.toArray) (s := 24) rfl rfl Salg.underlying108 size128 zero128s rfl (by decide) (by decide) ?_
        intro bn wa wb K1 hbn hbn2 K2 M
        replace Hnv := hid (Hnv.out.kept K1)
        replace Hbv := hid (Hbv.out.kept K1)
        replace Hcu := hid (Hcu.out.kept K1)
        replace Hnv := hid (Hnv.out.kept K2)
        replace Hbv := hid (Hbv.out.kept K2)
        replace Hcu := hid (Hcu.out.kept K2)
        have hbw2 : B ≤ wb.heap.size := Nat.le_trans hbw (Nat.le_trans K1.size K2.size)
        clear K1 K2
        simp only [Act.put, List.setIfInBounds_toArray, List.set_cons_zero, List.set_cons_succ]
        refine E_appendIt (base := B) (n := 0) (m := 1) (s := 24) (bn := bn) (so := 0) (xs := ([])) (news := (acN 1 nv bv cu nilS).cells) (cs := (acN 1 nv bv cu nilS).cells.toArray) info128 Salg.underlying108 rfl (by decide) (by decide) rfl rfl (own_nil _ _ _ _) (by decide) M.r0 rfl (cells_news _) (acN_one (n := 1) Hnv.out.one Hbv.out.one Hcu.out.one (sl := nilS) rfl) hBw hbw2 (apart2 (by intro h; cases h) (by intro h; cases h)) ?_
        clear M
        intro VV wc wd K1 M xO hb3 K2
        replace Hnv := hid (Hnv.out.kept K1)
        replace Hbv := hid (Hbv.out.kept K1)
        replace Hcu := hid (Hcu.out.kept K1)
        replace Hnv := hid (Hnv.out.kept K2)
        replace Hbv := hid (Hbv.out.kept K2)
        replace Hcu := hid (Hcu.out.kept K2)
        have HOW := hid xO
        clear xO K1 K2
        simp only [Act.put, List.setIfInBounds_toArray, List.set_cons_zero, List.set_cons_succ]
        refine E_nil ?_
        intro w9 K M
        replace Hnv := hid (Hnv.out.kept K)
        replace Hbv := hid (Hbv.out.kept K)
        replace Hcu := hid (Hcu.out.kept K)
        replace HOW := hid (own_kept HOW.out K)
        replace hb3 := Nat.le_trans hb3 K.size
        clear K
        refine S_seg 10 15 (by kernel_rfl) (by decide) ?_
        simp only [List.take_succ_cons, List.take_zero, List.drop_zero, List.drop_succ_cons, Nat.sub_zero, Nat.reduceSub]
        have HV1 : Hid (VV.oneCell' = true) := own_one HOW.out
        go_wp2_with ((with_reducible apply W_stV (b := c) (o := 0) (v := VV)); rfl; rfl; exact HV1.out; exact M.r1; exact size108; (rw [ch0_size]; decide); intro w10 K hr3; rw [ch0_s0] at hr3; replace Hnv := hid (Hnv.out.keptC K M.r1 (ch0_nb _ _)); replace Hbv := hid (Hbv.out.keptC K M.r1 (ch0_nb _ _)); replace Hcu := hid (Hcu.out.keptC K M.r1 (ch0_nb _ _)); replace HOW := hid (own_keptC HOW.out K M.r1 (by decide)); replace hb3 := Nat.le_trans hb3 K.size; replace M := Mem.callPut (L1 := [(t9, _)]) M (Or.inr hc) K hr3; clear K hr3; simp only [List.cons_append, List.nil_append] at M)
        refine S_done ?_
        go_wp2_with fail
        refine S_region (by kernel_rfl) ?_
        replace Hnv := hid (Hnv.out.kept (Kept.refl [] _).drew)
        replace Hbv := hid (Hbv.out.kept (Kept.refl [] _).drew)
        replace Hcu := hid (Hcu.out.kept (Kept.refl [] _).drew)
        replace HOW := hid (own_kept HOW.out (Kept.refl [] _).drew)
        refine E_stage 0 9 [0, 1, 2, 3, 4, 5, 6, 7, 8] (by kernel_rfl) M.drew ?_
        clear M
        simp only [List.filterMap_cons, List.filterMap_nil, List.getElem?_cons_zero, List.getElem?_cons_succ]
        ((with_reducible apply E_run); rfl; rfl; (intro w M; go_simp; (try go_ints); (try simp only [↓IntWalk.iteOmega]); (try with_reducible rfl)); simp only [Act.put, List.setIfInBounds_toArray, List.set_cons_zero, List.set_cons_succ])
        ((with_reducible apply E_run); rfl; rfl; (intro w M; go_simp; (try go_ints); (try simp only [↓IntWalk.iteOmega]); (try with_reducible rfl)); simp only [Act.put, List.setIfInBounds_toArray, List.set_cons_zero, List.set_cons_succ])
        ((with_reducible apply E_run); rfl; rfl; (intro w M; go_simp; (try go_ints); (try simp only [↓IntWalk.iteOmega]); (try with_reducible rfl)); simp only [Act.put, List.setIfInBounds_toArray, List.set_cons_zero, List.set_cons_succ])
        ((with_reducible apply E_run); rfl; rfl; (intro w M; go_simp; (try go_ints); (try simp only [↓IntWalk.iteOmega]); (try with_reducible rfl)); simp only [Act.put, List.setIfInBounds_toArray, List.set_cons_zero, List.set_cons_succ])
        ((with_reducible apply E_run); rfl; rfl; (intro w M; go_simp; (try go_ints); (try simp only [↓IntWalk.iteOmega]); (try with_reducible rfl)); simp only [Act.put, List.setIfInBounds_toArray, List.set_cons_zero, List.set_cons_succ])
        ((with_reducible apply E_run); rfl; rfl; (intro w M; exact run_loadCell (M.r1) rfl (ch0_18 _ _) Salg.underlying89 rfl); simp only [Act.put, List.setIfInBounds_toArray, List.set_cons_zero, List.set_cons_succ])
        ((with_reducible apply E_run); rfl; rfl; (intro w M; go_simp; (try go_ints); (try simp only [↓IntWalk.iteOmega]); (try with_reducible rfl)); simp only [Act.put, List.setIfInBounds_toArray, List.set_cons_zero, List.set_cons_succ])
        ((with_reducible apply E_run); rfl; rfl; (intro w M; exact run_loadCell (M.r0) rfl (show (acN 1 nv bv cu nilS).cells.toArray[21]? = some bv by kernel_rfl) Salg.underlying89 rfl); simp only [Act.put, List.setIfInBounds_toArray, List.set_cons_zero, List.set_cons_succ])
        refine E_call rfl Salg.func68 (by kernel_rfl) (by kernel_rfl) (args := [nilS, bv]) rfl ?_
        intro w1 K M
        replace Hnv := hid (Hnv.out.kept K)
        replace Hbv := hid (Hbv.out.kept K)
        replace Hcu := hid (Hcu.out.kept K)
        replace HOW := hid (own_kept HOW.out K)
        replace hb3 := Nat.le_trans hb3 K.size
        clear K
        refine (add_num _ _ 0 0 _ (nil_num _) Hbv.out (by decide) (by decide)).mono ?_
        rintro e w11 ⟨tv2, rfl, xHTV2, K⟩
        have HTV2 := hid xHTV2
        clear xHTV2
        replace Hnv := hid (Hnv.out.kept K)
        replace Hbv := hid (Hbv.out.kept K)
        replace Hcu := hid (Hcu.out.kept K)
        replace HOW := hid (own_kept HOW.out K)
        replace hb3 := Nat.le_trans hb3 K.size
        replace M := M.call K
        refine ⟨_, rfl, trivial, M, ?_⟩
        clear K
        simp only [Act.put, List.setIfInBounds_toArray, List.set_cons_zero, List.set_cons_succ]
        refine E_nil ?_
        intro w12 K M
        replace Hnv := hid (Hnv.out.kept K)
        replace Hbv := hid (Hbv.out.kept K)
        replace Hcu := hid (Hcu.out.kept K)
        replace HTV2 := hid (HTV2.out.kept K)
        replace HOW := hid (own_kept HOW.out K)
        replace hb3 := Nat.le_trans hb3 K.size
        clear K
        refine S_seg 9 13 (by kernel_rfl) (by decide) ?_
        simp only [List.take_succ_cons, List.take_zero, List.drop_zero, List.drop_succ_cons, Nat.sub_zero, Nat.reduceSub]
        go_wp2_with ((with_reducible apply W_stV (b := c) (o := 18) (v := tv2)); rfl; rfl; exact HTV2.out.one; exact M.r1; exact size89; (rw [ch0_size]; decide); intro w13 K hr3; rw [ch0_s18] at hr3; replace Hnv := hid (Hnv.out.keptC K M.r1 (ch0_nb _ _)); replace Hbv := hid (Hbv.out.keptC K M.r1 (ch0_nb _ _)); replace Hcu := hid (Hcu.out.keptC K M.r1 (ch0_nb _ _)); replace HTV2 := hid (HTV2.out.keptC K M.r1 (ch0_nb _ _)); replace HOW := hid (own_keptC HOW.out K M.r1 (by decide)); replace hb3 := Nat.le_trans hb3 K.size; replace M := Mem.callPut (L1 := [(t9, _)]) M (Or.inr hc) K hr3; clear K hr3; simp only [List.cons_append, List.nil_append] at M)
        refine S_done ?_
        go_wp2_with fail
        go_roundw
        case rel => exact .inr (.inl ⟨by go_num, VV, tv2, nv, bv, cu, B, M.tail, hBw, hcr, hb3, HOW.out, Hnv.out, Hbv.out, Hcu.out, HTV2.out⟩)
        case measure => decide
    · have HO := hid xO
      have Hnv := hid xHnv
      have Hbv := hid xHbv
      have Hcu := hid xHcu
      have HTV := hid xTV
      clear xO xHnv xHbv xHcu xTV
      have HWR := hid M.kept
      have HRC := hid M.r0
      obtain ⟨B, hB⟩ : ∃ B : Nat, B = wr.heap.size := ⟨_, rfl⟩
      have hcr : c < B := by rw [hB]; exact lt_of_row HRC.out
      have hBw : w.heap.size ≤ B := by rw [hB]; exact HWR.out.size
      have MW := M
      replace M := Mem.start wr []
      go_wp2_with (first
        | ((with_reducible apply W_loadX (b := g) (o := 55) (n := 55) (cs := cur) (vs := (oaN 2 u2).cells.toArray)); rfl; exact HWR.out.row hg (by simp); exact Salg.underlying123; rfl; exact size123; omega; exact HEX1.out; simp only [Act.put, List.setIfInBounds_toArray, List.set_cons_zero, List.set_cons_succ])
        | ((with_reducible apply L_allocA (d := 8) M); exact zero123; clear M; intro t8 w1 ht8 M; simp only [Act.put, List.setIfInBounds_toArray, List.set_cons_zero, List.set_cons_succ])
        | ((with_reducible apply W_storeK (b := t8) (vs := (oaN 2 u2).cells.toArray)); rfl; rfl; exact M.r0; exact size123; rfl; exact oneT (oaN_one _ HU2.out.one); intro w3 K hr3; replace M := Mem.callPut (L1 := []) M (Or.inr ht8) K hr3; clear K hr3; simp only [List.nil_append] at M))
      refine S_region (by kernel_rfl) ?_
      refine E_float 0 13 [0, 1, 2, 3, 5, 6, 8, 9, 4, 7, 10, 11] 12 9 _ (by kernel_rfl) ⟨⟨_, _, _, _, _, rfl, zero128, rfl⟩⟩ (by simp) M.drew ?_
      clear M
      simp only [List.filterMap_cons, List.filterMap_nil, List.getElem?_cons_zero, List.getElem?_cons_succ]
      ((with_reducible apply E_run); rfl; rfl; (intro w M; go_simp; (try go_ints); (try simp only [↓IntWalk.iteOmega]); (try with_reducible rfl)); simp only [Act.put, List.setIfInBounds_toArray, List.set_cons_zero, List.set_cons_succ])
      ((with_reducible apply E_run (v := .agg ((ad 2).map n8).toArray)); rfl; rfl; (intro w M; exact run_loadX (n := 20) M.r0 rfl Salg.underlying45 rfl size45 (Nat.le_of_ble_eq_true (by kernel_rfl)) (oaN_x 2 u2)); simp only [Act.put, List.setIfInBounds_toArray, List.set_cons_zero, List.set_cons_succ])
      ((with_reducible apply E_run); rfl; rfl; (intro w M; go_simp; (try go_ints); (try simp only [↓IntWalk.iteOmega]); (try with_reducible rfl)); simp only [Act.put, List.setIfInBounds_toArray, List.set_cons_zero, List.set_cons_succ])
      ((with_reducible apply E_run); rfl; rfl; (intro w M; exact run_loadCell (M.r0) rfl (show (oaN 2 u2).cells.toArray[20]? = some (n64 1) by kernel_rfl) Salg.underlying23 rfl); simp only [Act.put, List.setIfInBounds_toArray, List.set_cons_zero, List.set_cons_succ])
      ((with_reducible apply E_run); rfl; rfl; (intro w M; go_simp; (try go_ints); (try simp only [↓IntWalk.iteOmega]); (try with_reducible rfl)); simp only [Act.put, List.setIfInBounds_toArray, List.set_cons_zero, List.set_cons_succ])
      ((with_reducible apply E_run); rfl; rfl; (intro w M; exact run_sliceArr (l := 0) (h := 32) (m := 32) rfl Salg.underlying46 size5 (by (first | exact Or.inl ⟨rfl, rfl⟩ | exact Or.inr ⟨_, _, _, rfl, rfl, by omega⟩)) (by (first | exact Or.inl ⟨rfl, rfl⟩ | exact Or.inr ⟨_, _, _, rfl, rfl, by omega⟩)) (by (first | exact Or.inl ⟨rfl, rfl⟩ | exact Or.inr ⟨_, _, _, rfl, rfl, by omega⟩)) (by first | exact Or.inl rfl | exact Or.inr rfl) (by omega) (by omega) (by omega) (by omega)); (try simp only [Nat.zero_add, Nat.sub_zero]); simp only [Act.put, List.setIfInBounds_toArray, List.set_cons_zero, List.set_cons_succ])
      ((with_reducible apply E_run); rfl; rfl; (intro w M; go_simp; (try go_ints); (try simp only [↓IntWalk.iteOmega]); (try with_reducible rfl)); simp only [Act.put, List.setIfInBounds_toArray, List.set_cons_zero, List.set_cons_succ])
      ((with_reducible apply E_run); rfl; rfl; (intro w M; exact run_loadCell (M.r0) rfl (show (oaN 2 u2).cells.toArray[53]? = some u2 by kernel_rfl) Salg.underlying40 rfl); simp only [Act.put, List.setIfInBounds_toArray, List.set_cons_zero, List.set_cons_succ])
      refine E_call rfl Salg.func87 (by kernel_rfl) (by kernel_rfl) (args := [n64 1]) rfl ?_
      intro w1 K M
      clear K
      refine (num_int _ 1 rfl (by decide) _).mono ?_
      rintro e w4 ⟨nv2, rfl, xHnv2, K⟩
      have Hnv2 := hid xHnv2
      clear xHnv2
      replace M := M.call K
      refine ⟨_, rfl, K.mono (by simp), M, ?_⟩
      clear K
      simp only [Act.put, List.setIfInBounds_toArray, List.set_cons_zero, List.set_cons_succ]
      refine E_call rfl Salg.func64 (by kernel_rfl) (by kernel_rfl) (args := [.slice (some ⟨t8, 21, none⟩) 32 32]) rfl ?_
      intro w1 K M
      replace Hnv2 := hid (Hnv2.out.kept K)
      clear K
      refine (fromBE_at t8 21 123 32 _ (List.replicate 32 0) _ M.r0 (oaN_bal 2 u2) (by decide) small32).mono ?_
      rintro e w5 ⟨bv2, rfl, xHbv2, K⟩
      have Hbv2 := hid xHbv2
      clear xHbv2
      replace Hnv2 := hid (Hnv2.out.kept K)
      replace M := M.call K
      refine ⟨_, rfl, K.mono (by simp), M, ?_⟩
      clear K
      simp only [Act.put, List.setIfInBounds_toArray, List.set_cons_zero, List.set_cons_succ]
      refine E_call rfl Salg.func96 (by kernel_rfl) (by kernel_rfl) (args := [u2]) rfl ?_
      intro w1 K M
      replace Hnv2 := hid (Hnv2.out.kept K)
      replace Hbv2 := hid (Hbv2.out.kept K)
      clear K
      refine (bytesOf_all u2 ds2 _ (HU2.out.kept (HWR.out.trans M.kept))).mono ?_
      rintro e w6 ⟨cu2, rfl, xHcu2, K⟩
      have Hcu2 := hid xHcu2
      clear xHcu2
      replace Hnv2 := hid (Hnv2.out.kept K)
      replace Hbv2 := hid (Hbv2.out.kept K)
      replace M := M.call K
      refine ⟨_, rfl, K.mono (by simp), M, ?_⟩
      clear K
      simp only [Act.put, List.setIfInBounds_toArray, List.set_cons_zero, List.set_cons_succ]
      rw [be_zero32] at Hbv2
      ((with_reducible apply E_run (v := .agg (acN 2 nv2 bv2 cu2 nilS).cells.toArray)); rfl; rfl; (intro w M; obtain ⟨p0, n0, c0, e0⟩ := Hnv2.out.slice; subst e0; obtain ⟨p1, n1, c1, e1⟩ := Hbv2.out.slice; subst e1; obtain ⟨p2, n2, c2, e2⟩ := Hcu2.out.slice; subst e2; kernel_rfl); simp only [Act.put, List.setIfInBounds_toArray, List.set_cons_zero, List.set_cons_succ])
      refine E_nil ?_
      intro w7 K M
      replace Hnv2 := hid (Hnv2.out.kept K)
      replace Hbv2 := hid (Hbv2.out.kept K)
      replace Hcu2 := hid (Hcu2.out.kept K)
      clear K
      intro t9 w8 K ht9 M
      replace Hnv2 := hid (Hnv2.out.kept K)
      replace Hbv2 := hid (Hbv2.out.kept K)
      replace Hcu2 := hid (Hcu2.out.kept K)
      clear K
      simp only [Act.put, List.setIfInBounds_toArray, List.set_cons_zero, List.set_cons_succ]
      refine S_seg 13 14 (by kernel_rfl) (by decide) ?_
      simp only [List.take_succ_cons, List.take_zero, List.drop_zero, List.drop_succ_cons, Nat.sub_zero, Nat.reduceSub]
      have HNB9 := hid (not_bytes_at (cs := (z8 20 ++ [nilS, nilS, nilS, nilS]).toArray) (tc := 128) (i := 20) (p := none) (n := 0) (m := 0) (by kernel_rfl))
      go_wp2_with ((with_reducible apply W_storeK (b := t9) (vs := (acN 2 nv2 bv2 cu2 nilS).cells.toArray)); rfl; rfl; exact M.r0; exact size128; rfl; exact oneT (acN_one (n := 2) Hnv2.out.one Hbv2.out.one Hcu2.out.one (sl := nilS) rfl); intro w3 K hr3; replace Hnv2 := hid (Hnv2.out.keptC K M.r0 HNB9.out); replace Hbv2 := hid (Hbv2.out.keptC K M.r0 HNB9.out); replace Hcu2 := hid (Hcu2.out.keptC K M.r0 HNB9.out); replace M := Mem.callPut (L1 := []) M (Or.inr ht9) K hr3; clear K hr3; simp only [List.nil_append] at M)
      refine S_done ?_
      go_wp2_with ((with_reducible apply W_loadCell); rfl; exact M.r1; exact (show (oaN 2 u2).cells.toArray[54]? = some nilS by kernel_rfl); exact Salg.underlying121; rfl; simp only [Act.put, List.setIfInBounds_toArray, List.set_cons_zero, List.set_cons_succ])
      go_loopw [55] (fun iv wx => iv = .int .i64 0 ∧ Mem wr [] [(t9, .cells (acN 2 nv2 bv2 cu2 nilS).cells.toArray 128 (0, 0)), (t8, .cells (oaN 2 u2).cells.toArray 123 (0, 0))] wx ∧ NumV wx nv2 1 ∧ NumV wx bv2 0 ∧ NatV wx cu2 ds2) (fun _ _ => 0)
      case atStart => exact ⟨rfl, M, Hnv2.out, Hbv2.out, Hcu2.out⟩
      case round =>
        clear M Hnv2 Hbv2 Hcu2
        obtain ⟨rfl, M, xHnv2, xHbv2, xHcu2⟩ := hrel
        have Hnv2 := hid xHnv2
        have Hbv2 := hid xHbv2
        have Hcu2 := hid xHcu2
        clear xHnv2 xHbv2 xHcu2
        have HKW := hid M.kept
        replace Hnv := hid (Hnv.out.kept M.kept)
        replace Hbv := hid (Hbv.out.kept M.kept)
        replace Hcu := hid (Hcu.out.kept M.kept)
        replace HTV := hid (HTV.out.kept M.kept)
        have h9c : t9 ≠ c := by rw [← hB] at ht9; omega
        have HO9 := hid (own_new HO.out ht9)
        replace HO := hid (own_kept HO.out M.kept)
        replace hb2 := Nat.le_trans hb2 M.kept.size
        replace M := (MW.call M.kept).add M.r0 (by intro p hp; simp at hp; subst hp; exact h9c)
        go_wp2_with fail
        refine S_region (by kernel_rfl) ?_
        replace Hnv := hid (Hnv.out.kept (Kept.refl [] _).drew)
        replace Hbv := hid (Hbv.out.kept (Kept.refl [] _).drew)
        replace Hcu := hid (Hcu.out.kept (Kept.refl [] _).drew)
        replace HTV := hid (HTV.out.kept (Kept.refl [] _).drew)
        replace Hnv2 := hid (Hnv2.out.kept (Kept.refl [] _).drew)
        replace Hbv2 := hid (Hbv2.out.kept (Kept.refl [] _).drew)
        replace Hcu2 := hid (Hcu2.out.kept (Kept.refl [] _).drew)
        replace HO := hid (own_kept HO.out (Kept.refl [] _).drew)
        refine E_stage 0 10 [0, 1, 2, 3, 4, 5, 6, 7, 8, 9] (by kernel_rfl) M.drew ?_
        clear M
        simp only [List.filterMap_cons, List.filterMap_nil, List.getElem?_cons_zero, List.getElem?_cons_succ]
        ((with_reducible apply E_run); rfl; rfl; (intro w M; go_simp; (try go_ints); (try simp only [↓IntWalk.iteOmega]); (try with_reducible rfl)); simp only [Act.put, List.setIfInBounds_toArray, List.set_cons_zero, List.set_cons_succ])
        ((with_reducible apply E_run); rfl; rfl; (intro w M; go_simp; (try go_ints); (try simp only [↓IntWalk.iteOmega]); (try with_reducible rfl)); simp only [Act.put, List.setIfInBounds_toArray, List.set_cons_zero, List.set_cons_succ])
        ((with_reducible apply E_run); rfl; rfl; (intro w M; go_simp; (try go_ints); (try simp only [↓IntWalk.iteOmega]); (try with_reducible rfl)); simp only [Act.put, List.setIfInBounds_toArray, List.set_cons_zero, List.set_cons_succ])
        ((with_reducible apply E_run); rfl; rfl; (intro w M; go_simp; (try go_ints); (try simp only [↓IntWalk.iteOmega]); (try with_reducible rfl)); simp only [Act.put, List.setIfInBounds_toArray, List.set_cons_zero, List.set_cons_succ])
        ((with_reducible apply E_run); rfl; rfl; (intro w M; go_simp; (try go_ints); (try simp only [↓IntWalk.iteOmega]); (try with_reducible rfl)); simp only [Act.put, List.setIfInBounds_toArray, List.set_cons_zero, List.set_cons_succ])
        ((with_reducible apply E_run); rfl; rfl; (intro w M; go_simp; (try go_ints); (try simp only [↓IntWalk.iteOmega]); (try with_reducible rfl)); simp only [Act.put, List.setIfInBounds_toArray, List.set_cons_zero, List.set_cons_succ])
        ((with_reducible apply E_run); rfl; rfl; (intro w M; exact run_loadCell (M.r1) rfl (ch0_0 _ _) Salg.underlying108 rfl); simp only [Act.put, List.setIfInBounds_toArray, List.set_cons_zero, List.set_cons_succ])
        ((with_reducible apply E_run); rfl; rfl; (intro w M; exact run_loadAll M.r0 rfl Salg.underlying128 rfl (by kernel_rfl)); simp only [Act.put, List.setIfInBounds_toArray, List.set_cons_zero, List.set_cons_succ])
        refine E_buildIt (vs := (acN 2 nv2 bv2 cu2 nilS).cells.toArray) (s := 24) rfl rfl Salg.underlying108 size128 zero128s rfl (by decide) (by decide) ?_
        intro bn wa wb K1 hbn hbn2 K2 M
        replace Hnv := hid (Hnv.out.kept K1)
        replace Hbv := hid (Hbv.out.kept K1)
        replace Hcu := hid (Hcu.out.kept K1)
        replace HTV := hid (HTV.out.kept K1)
        replace Hnv2 := hid (Hnv2.out.kept K1)
        replace Hbv2 := hid (Hbv2.out.kept K1)
        replace Hcu2 := hid (Hcu2.out.kept K1)
        replace Hnv := hid (Hnv.out.kept K2)
        replace Hbv := hid (Hbv.out.kept K2)
        replace Hcu := hid (Hcu.out.kept K2)
        replace HTV := hid (HTV.out.kept K2)
        replace Hnv2 := hid (Hnv2.out.kept K2)
        replace Hbv2 := hid (Hbv2.out.kept K2)
        replace Hcu2 := hid (Hcu2.out.kept K2)
        replace HO := hid (own_kept (own_kept HO.out K1) K2)
        have hbw2 : base ≤ wb.heap.size := Nat.le_trans hb2 (Nat.le_trans K1.size K2.size)
        clear K1 K2
        simp only [Act.put, List.setIfInBounds_toArray, List.set_cons_zero, List.set_cons_succ]
        refine E_appendIt (base := base) (n := 1) (m := 1) (s := 24) (bn := bn) (so := 0) (xs := ((acN 1 nv bv cu nilS).cells)) (news := (acN 2 nv2 bv2 cu2 nilS).cells) (cs := (acN 2 nv2 bv2 cu2 nilS).cells.toArray) info128 Salg.underlying108 rfl (by decide) (by decide) rfl rfl (HO.out) (by decide) M.r0 rfl (cells_news _) (acN_one (n := 2) Hnv2.out.one Hbv2.out.one Hcu2.out.one (sl := nilS) rfl) hb1 hbw2 (apart2 HO9.out (own_old HO.out hcb)) ?_
        clear M
        intro VV wc wd K1 M xO hb3 K2
        replace Hnv := hid (Hnv.out.kept K1)
        replace Hbv := hid (Hbv.out.kept K1)
        replace Hcu := hid (Hcu.out.kept K1)
        replace HTV := hid (HTV.out.kept K1)
        replace Hnv2 := hid (Hnv2.out.kept K1)
        replace Hbv2 := hid (Hbv2.out.kept K1)
        replace Hcu2 := hid (Hcu2.out.kept K1)
        replace Hnv := hid (Hnv.out.keptO K2 (own_kept HO.out K1) (k := 23) (p := none) (a := 0) (b := 0) (by kernel_rfl))
        replace Hbv := hid (Hbv.out.keptO K2 (own_kept HO.out K1) (k := 23) (p := none) (a := 0) (b := 0) (by kernel_rfl))
        replace Hcu := hid (Hcu.out.keptO K2 (own_kept HO.out K1) (k := 23) (p := none) (a := 0) (b := 0) (by kernel_rfl))
        replace HTV := hid (HTV.out.keptO K2 (own_kept HO.out K1) (k := 23) (p := none) (a := 0) (b := 0) (by kernel_rfl))
        replace Hnv2 := hid (Hnv2.out.keptO K2 (own_kept HO.out K1) (k := 23) (p := none) (a := 0) (b := 0) (by kernel_rfl))
        replace Hbv2 := hid (Hbv2.out.keptO K2 (own_kept HO.out K1) (k := 23) (p := none) (a := 0) (b := 0) (by kernel_rfl))
        replace Hcu2 := hid (Hcu2.out.keptO K2 (own_kept HO.out K1) (k := 23) (p := none) (a := 0) (b := 0) (by kernel_rfl))
        have HOW := hid xO
        clear xO K1 K2
        simp only [Act.put, List.setIfInBounds_toArray, List.set_cons_zero, List.set_cons_succ]
        refine E_nil ?_
        intro w9 K M
        replace Hnv := hid (Hnv.out.kept K)
        replace Hbv := hid (Hbv.out.kept K)
        replace Hcu := hid (Hcu.out.kept K)
        replace HTV := hid (HTV.out.kept K)
        replace Hnv2 := hid (Hnv2.out.kept K)
        replace Hbv2 := hid (Hbv2.out.kept K)
        replace Hcu2 := hid (Hcu2.out.kept K)
        replace HOW := hid (own_kept HOW.out K)
        replace hb3 := Nat.le_trans hb3 K.size
        clear K
        refine S_seg 10 15 (by kernel_rfl) (by decide) ?_
        simp only [List.take_succ_cons, List.take_zero, List.drop_zero, List.drop_succ_cons, Nat.sub_zero, Nat.reduceSub]
        have HV1 : Hid (VV.oneCell' = true) := own_one HOW.out
        go_wp2_with ((with_reducible apply W_stV (b := c) (o := 0) (v := VV)); rfl; rfl; exact HV1.out; exact M.r1; exact size108; (rw [ch0_size]; decide); intro w10 K hr3; rw [ch0_s0] at hr3; replace Hnv := hid (Hnv.out.keptC K M.r1 (ch0_nb _ _)); replace Hbv := hid (Hbv.out.keptC K M.r1 (ch0_nb _ _)); replace Hcu := hid (Hcu.out.keptC K M.r1 (ch0_nb _ _)); replace HTV := hid (HTV.out.keptC K M.r1 (ch0_nb _ _)); replace Hnv2 := hid (Hnv2.out.keptC K M.r1 (ch0_nb _ _)); replace Hbv2 := hid (Hbv2.out.keptC K M.r1 (ch0_nb _ _)); replace Hcu2 := hid (Hcu2.out.keptC K M.r1 (ch0_nb _ _)); replace HOW := hid (own_keptC HOW.out K M.r1 (by decide)); replace hb3 := Nat.le_trans hb3 K.size; replace M := Mem.callPut (L1 := [(t9, _)]) M (Or.inr hc) K hr3; clear K hr3; simp only [List.cons_append, List.nil_append] at M)
        refine S_done ?_
        go_wp2_with fail
        refine S_region (by kernel_rfl) ?_
        replace Hnv := hid (Hnv.out.kept (Kept.refl [] _).drew)
        replace Hbv := hid (Hbv.out.kept (Kept.refl [] _).drew)
        replace Hcu := hid (Hcu.out.kept (Kept.refl [] _).drew)
        replace HTV := hid (HTV.out.kept (Kept.refl [] _).drew)
        replace Hnv2 := hid (Hnv2.out.kept (Kept.refl [] _).drew)
        replace Hbv2 := hid (Hbv2.out.kept (Kept.refl [] _).drew)
        replace Hcu2 := hid (Hcu2.out.kept (Kept.refl [] _).drew)
        replace HOW := hid (own_kept HOW.out (Kept.refl [] _).drew)
        refine E_stage 0 9 [0, 1, 2, 3, 4, 5, 6, 7, 8] (by kernel_rfl) M.drew ?_
        clear M
        simp only [List.filterMap_cons, List.filterMap_nil, List.getElem?_cons_zero, List.getElem?_cons_succ]
        ((with_reducible apply E_run); rfl; rfl; (intro w M; go_simp; (try go_ints); (try simp only [↓IntWalk.iteOmega]); (try with_reducible rfl)); simp only [Act.put, List.setIfInBounds_toArray, List.set_cons_zero, List.set_cons_succ])
        ((with_reducible apply E_run); rfl; rfl; (intro w M; go_simp; (try go_ints); (try simp only [↓IntWalk.iteOmega]); (try with_reducible rfl)); simp only [Act.put, List.setIfInBounds_toArray, List.set_cons_zero, List.set_cons_succ])
        ((with_reducible apply E_run); rfl; rfl; (intro w M; go_simp; (try go_ints); (try simp only [↓IntWalk.iteOmega]); (try with_reducible rfl)); simp only [Act.put, List.setIfInBounds_toArray, List.set_cons_zero, List.set_cons_succ])
        ((with_reducible apply E_run); rfl; rfl; (intro w M; go_simp; (try go_ints); (try simp only [↓IntWalk.iteOmega]); (try with_reducible rfl)); simp only [Act.put, List.setIfInBounds_toArray, List.set_cons_zero, List.set_cons_succ])
        ((with_reducible apply E_run); rfl; rfl; (intro w M; go_simp; (try go_ints); (try simp only [↓IntWalk.iteOmega]); (try with_reducible rfl)); simp only [Act.put, List.setIfInBounds_toArray, List.set_cons_zero, List.set_cons_succ])
        ((with_reducible apply E_run); rfl; rfl; (intro w M; exact run_loadCell (M.r1) rfl (ch0_18 _ _) Salg.underlying89 rfl); simp only [Act.put, List.setIfInBounds_toArray, List.set_cons_zero, List.set_cons_succ])
        ((with_reducible apply E_run); rfl; rfl; (intro w M; go_simp; (try go_ints); (try simp only [↓IntWalk.iteOmega]); (try with_reducible rfl)); simp only [Act.put, List.setIfInBounds_toArray, List.set_cons_zero, List.set_cons_succ])
        ((with_reducible apply E_run); rfl; rfl; (intro w M; exact run_loadCell (M.r0) rfl (show (acN 2 nv2 bv2 cu2 nilS).cells.toArray[21]? = some bv2 by kernel_rfl) Salg.underlying89 rfl); simp only [Act.put, List.setIfInBounds_toArray, List.set_cons_zero, List.set_cons_succ])
        refine E_call rfl Salg.func68 (by kernel_rfl) (by kernel_rfl) (args := [tv, bv2]) rfl ?_
        intro w1 K M
        replace Hnv := hid (Hnv.out.kept K)
        replace Hbv := hid (Hbv.out.kept K)
        replace Hcu := hid (Hcu.out.kept K)
        replace HTV := hid (HTV.out.kept K)
        replace Hnv2 := hid (Hnv2.out.kept K)
        replace Hbv2 := hid (Hbv2.out.kept K)
        replace Hcu2 := hid (Hcu2.out.kept K)
        replace HOW := hid (own_kept HOW.out K)
        replace hb3 := Nat.le_trans hb3 K.size
        clear K
        refine (add_num _ _ 0 0 _ HTV.out Hbv2.out (by decide) (by decide)).mono ?_
        rintro e w11 ⟨tv2, rfl, xHTV2, K⟩
        have HTV2 := hid xHTV2
        clear xHTV2
        replace Hnv := hid (Hnv.out.kept K)
        replace Hbv := hid (Hbv.out.kept K)
        replace Hcu := hid (Hcu.out.kept K)
        replace HTV := hid (HTV.out.kept K)
        replace Hnv2 := hid (Hnv2.out.kept K)
        replace Hbv2 := hid (Hbv2.out.kept K)
        replace Hcu2 := hid (Hcu2.out.kept K)
        replace HOW := hid (own_kept HOW.out K)
        replace hb3 := Nat.le_trans hb3 K.size
        replace M := M.call K
        refine ⟨_, rfl, trivial, M, ?_⟩
        clear K
        simp only [Act.put, List.setIfInBounds_toArray, List.set_cons_zero, List.set_cons_succ]
        refine E_nil ?_
        intro w12 K M
        replace Hnv := hid (Hnv.out.kept K)
        replace Hbv := hid (Hbv.out.kept K)
        replace Hcu := hid (Hcu.out.kept K)
        replace HTV := hid (HTV.out.kept K)
        replace Hnv2 := hid (Hnv2.out.kept K)
        replace Hbv2 := hid (Hbv2.out.kept K)
        replace Hcu2 := hid (Hcu2.out.kept K)
        replace HTV2 := hid (HTV2.out.kept K)
        replace HOW := hid (own_kept HOW.out K)
        replace hb3 := Nat.le_trans hb3 K.size
        clear K
        refine S_seg 9 13 (by kernel_rfl) (by decide) ?_
        simp only [List.take_succ_cons, List.take_zero, List.drop_zero, List.drop_succ_cons, Nat.sub_zero, Nat.reduceSub]
        go_wp2_with ((with_reducible apply W_stV (b := c) (o := 18) (v := tv2)); rfl; rfl; exact HTV2.out.one; exact M.r1; exact size89; (rw [ch0_size]; decide); intro w13 K hr3; rw [ch0_s18] at hr3; replace Hnv := hid (Hnv.out.keptC K M.r1 (ch0_nb _ _)); replace Hbv := hid (Hbv.out.keptC K M.r1 (ch0_nb _ _)); replace Hcu := hid (Hcu.out.keptC K M.r1 (ch0_nb _ _)); replace HTV := hid (HTV.out.keptC K M.r1 (ch0_nb _ _)); replace Hnv2 := hid (Hnv2.out.keptC K M.r1 (ch0_nb _ _)); replace Hbv2 := hid (Hbv2.out.keptC K M.r1 (ch0_nb _ _)); replace Hcu2 := hid (Hcu2.out.keptC K M.r1 (ch0_nb _ _)); replace HTV2 := hid (HTV2.out.keptC K M.r1 (ch0_nb _ _)); replace HOW := hid (own_keptC HOW.out K M.r1 (by decide)); replace hb3 := Nat.le_trans hb3 K.size; replace M := Mem.callPut (L1 := [(t9, _)]) M (Or.inr hc) K hr3; clear K hr3; simp only [List.cons_append, List.nil_append] at M)
        refine S_done ?_
        go_wp2_with fail
        go_roundw
        case rel => exact .inr (.inr (.inl ⟨by go_num, VV, tv2, nv, bv, cu, nv2, bv2, cu2, base, M.tail, hb1, hcb, hb3, HOW.out, Hnv.out, Hbv.out, Hcu.out, Hnv2.out, Hbv2.out, Hcu2.out, HTV2.out⟩))
        case measure => decide
    · have HO := hid xO
      have Hnv := hid xHnv
      have Hbv := hid xHbv
      have Hcu := hid xHcu
      have Hnv2 := hid xHnv2
      have Hbv2 := hid xHbv2
      have Hcu2 := hid xHcu2
      have HTV := hid xTV
      clear xO xHnv xHbv xHcu xHnv2 xHbv2 xHcu2 xTV
      have HWR := hid M.kept
      have HRC := hid M.r0
      obtain ⟨B, hB⟩ : ∃ B : Nat, B = wr.heap.size := ⟨_, rfl⟩
      have hcr : c < B := by rw [hB]; exact lt_of_row HRC.out
      have hBw : w.heap.size ≤ B := by rw [hB]; exact HWR.out.size
      have MW := M
      replace M := Mem.start wr []
      go_wp2_with (first
        | ((with_reducible apply W_loadX (b := g) (o := 110) (n := 55) (cs := cur) (vs := oaB.cells.toArray)); rfl; exact HWR.out.row hg (by simp); exact Salg.underlying123; rfl; exact size123; omega; exact HEX2.out; simp only [Act.put, List.setIfInBounds_toArray, List.set_cons_zero, List.set_cons_succ])
        | ((with_reducible apply L_allocA (d := 8) M); exact zero123; clear M; intro t8 w1 ht8 M; simp only [Act.put, List.setIfInBounds_toArray, List.set_cons_zero, List.set_cons_succ])
        | ((with_reducible apply W_storeK (b := t8) (vs := oaB.cells.toArray)); rfl; rfl; exact M.r0; exact size123; rfl; exact oneL rfl; intro w3 K hr3; replace M := Mem.callPut (L1 := []) M (Or.inr ht8) K hr3; clear K hr3; simp only [List.nil_append] at M))
      refine S_region (by kernel_rfl) ?_
      refine E_float 0 13 [0, 1, 2, 3, 5, 6, 8, 9, 4, 7, 10, 11] 12 9 _ (by kernel_rfl) ⟨⟨_, _, _, _, _, rfl, zero128, rfl⟩⟩ (by simp) M.drew ?_
      clear M
      simp only [List.filterMap_cons, List.filterMap_nil, List.getElem?_cons_zero, List.getElem?_cons_succ]
      ((with_reducible apply E_run); rfl; rfl; (intro w M; go_simp; (try go_ints); (try simp only [↓IntWalk.iteOmega]); (try with_reducible rfl)); simp only [Act.put, List.setIfInBounds_toArray, List.set_cons_zero, List.set_cons_succ])
      ((with_reducible apply E_run (v := .agg ((ad 240).map n8).toArray)); rfl; rfl; (intro w M; exact run_loadX (n := 20) M.r0 rfl Salg.underlying45 rfl size45 (Nat.le_of_ble_eq_true (by kernel_rfl)) (oaB_x)); simp only [Act.put, List.setIfInBounds_toArray, List.set_cons_zero, List.set_cons_succ])
      ((with_reducible apply E_run); rfl; rfl; (intro w M; go_simp; (try go_ints); (try simp only [↓IntWalk.iteOmega]); (try with_reducible rfl)); simp only [Act.put, List.setIfInBounds_toArray, List.set_cons_zero, List.set_cons_succ])
      ((with_reducible apply E_run); rfl; rfl; (intro w M; exact run_loadCell (M.r0) rfl (show oaB.cells.toArray[20]? = some (n64 0) by kernel_rfl) Salg.underlying23 rfl); simp only [Act.put, List.setIfInBounds_toArray, List.set_cons_zero, List.set_cons_succ])
      ((with_reducible apply E_run); rfl; rfl; (intro w M; go_simp; (try go_ints); (try simp only [↓IntWalk.iteOmega]); (try with_reducible rfl)); simp only [Act.put, List.setIfInBounds_toArray, List.set_cons_zero, List.set_cons_succ])
      ((with_reducible apply E_run); rfl; rfl; (intro w M; exact run_sliceArr (l := 0) (h := 32) (m := 32) rfl Salg.underlying46 size5 (by (first | exact Or.inl ⟨rfl, rfl⟩ | exact Or.inr ⟨_, _, _, rfl, rfl, by omega⟩)) (by (first | exact Or.inl ⟨rfl, rfl⟩ | exact Or.inr ⟨_, _, _, rfl, rfl, by omega⟩)) (by (first | exact Or.inl ⟨rfl, rfl⟩ | exact Or.inr ⟨_, _, _, rfl, rfl, by omega⟩)) (by first | exact Or.inl rfl | exact Or.inr rfl) (by omega) (by omega) (by omega) (by omega)); (try simp only [Nat.zero_add, Nat.sub_zero]); simp only [Act.put, List.setIfInBounds_toArray, List.set_cons_zero, List.set_cons_succ])
      ((with_reducible apply E_run); rfl; rfl; (intro w M; go_simp; (try go_ints); (try simp only [↓IntWalk.iteOmega]); (try with_reducible rfl)); simp only [Act.put, List.setIfInBounds_toArray, List.set_cons_zero, List.set_cons_succ])
      ((with_reducible apply E_run); rfl; rfl; (intro w M; exact run_loadCell (M.r0) rfl (show oaB.cells.toArray[53]? = some nilS by kernel_rfl) Salg.underlying40 rfl); simp only [Act.put, List.setIfInBounds_toArray, List.set_cons_zero, List.set_cons_succ])
      refine E_call rfl Salg.func87 (by kernel_rfl) (by kernel_rfl) (args := [n64 0]) rfl ?_
      intro w1 K M
      clear K
      refine (num_int _ 0 rfl (by decide) _).mono ?_
      rintro e w4 ⟨nv3, rfl, xHnv3, K⟩
      have Hnv3 := hid xHnv3
      clear xHnv3
      replace M := M.call K
      refine ⟨_, rfl, K.mono (by simp), M, ?_⟩
      clear K
      simp only [Act.put, List.setIfInBounds_toArray, List.set_cons_zero, List.set_cons_succ]
      refine E_call rfl Salg.func64 (by kernel_rfl) (by kernel_rfl) (args := [.slice (some ⟨t8, 21, none⟩) 32 32]) rfl ?_
      intro w1 K M
      replace Hnv3 := hid (Hnv3.out.kept K)
      clear K
      refine (fromBE_at t8 21 123 32 _ balB _ M.r0 (oaB_bal) (by decide) smallB).mono ?_
      rintro e w5 ⟨bv3, rfl, xHbv3, K⟩
      have Hbv3 := hid xHbv3
      clear xHbv3
      replace Hnv3 := hid (Hnv3.out.kept K)
      replace M := M.call K
      refine ⟨_, rfl, K.mono (by simp), M, ?_⟩
      clear K
      simp only [Act.put, List.setIfInBounds_toArray, List.set_cons_zero, List.set_cons_succ]
      refine E_call rfl Salg.func96 (by kernel_rfl) (by kernel_rfl) (args := [nilS]) rfl ?_
      intro w1 K M
      replace Hnv3 := hid (Hnv3.out.kept K)
      replace Hbv3 := hid (Hbv3.out.kept K)
      clear K
      refine (bytesOf_nil _).mono ?_
      rintro e w6 ⟨rfl, hw⟩
      replace hw := hw.symm
      subst hw
      refine ⟨_, rfl, Kept.refl _ _, M, ?_⟩
      simp only [Act.put, List.setIfInBounds_toArray, List.set_cons_zero, List.set_cons_succ]
      rw [be_balB] at Hbv3
      ((with_reducible apply E_run (v := .agg (acN 240 nv3 bv3 nilS nilS).cells.toArray)); rfl; rfl; (intro w M; obtain ⟨p0, n0, c0, e0⟩ := Hnv3.out.slice; subst e0; obtain ⟨p1, n1, c1, e1⟩ := Hbv3.out.slice; subst e1; kernel_rfl); simp only [Act.put, List.setIfInBounds_toArray, List.set_cons_zero, List.set_cons_succ])
      refine E_nil ?_
      intro w7 K M
      replace Hnv3 := hid (Hnv3.out.kept K)
      replace Hbv3 := hid (Hbv3.out.kept K)
      clear K
      intro t9 w8 K ht9 M
      replace Hnv3 := hid (Hnv3.out.kept K)
      replace Hbv3 := hid (Hbv3.out.kept K)
      clear K
      simp only [Act.put, List.setIfInBounds_toArray, List.set_cons_zero, List.set_cons_succ]
      refine S_seg 13 14 (by kernel_rfl) (by decide) ?_
      simp only [List.take_succ_cons, List.take_zero, List.drop_zero, List.drop_succ_cons, Nat.sub_zero, Nat.reduceSub]
      have HNB9 := hid (not_bytes_at (cs := (z8 20 ++ [nilS, nilS, nilS, nilS]).toArray) (tc := 128) (i := 20) (p := none) (n := 0) (m := 0) (by kernel_rfl))
      go_wp2_with ((with_reducible apply W_storeK (b := t9) (vs := (acN 240 nv3 bv3 nilS nilS).cells.toArray)); rfl; rfl; exact M.r0; exact size128; rfl; exact oneT (acN_one (n := 240) Hnv3.out.one Hbv3.out.one (cu := nilS) rfl (sl := nilS) rfl); intro w3 K hr3; replace Hnv3 := hid (Hnv3.out.keptC K M.r0 HNB9.out); replace Hbv3 := hid (Hbv3.out.keptC K M.r0 HNB9.out); replace M := Mem.callPut (L1 := []) M (Or.inr ht9) K hr3; clear K hr3; simp only [List.nil_append] at M)
      refine S_done ?_
      go_wp2_with ((with_reducible apply W_loadCell); rfl; exact M.r1; exact (show oaB.cells.toArray[54]? = some nilS by kernel_rfl); exact Salg.underlying121; rfl; simp only [Act.put, List.setIfInBounds_toArray, List.set_cons_zero, List.set_cons_succ])
      go_loopw [55] (fun iv wx => iv = .int .i64 0 ∧ Mem wr [] [(t9, .cells (acN 240 nv3 bv3 nilS nilS).cells.toArray 128 (0, 0)), (t8, .cells oaB.cells.toArray 123 (0, 0))] wx ∧ NumV wx nv3 0 ∧ NumV wx bv3 340282366920938463463374607431768211456) (fun _ _ => 0)
      case atStart => exact ⟨rfl, M, Hnv3.out, Hbv3.out⟩
      case round =>
        clear M Hnv3 Hbv3
        obtain ⟨rfl, M, xHnv3, xHbv3⟩ := hrel
        have Hnv3 := hid xHnv3
        have Hbv3 := hid xHbv3
        clear xHnv3 xHbv3
        have HKW := hid M.kept
        replace Hnv := hid (Hnv.out.kept M.kept)
        replace Hbv := hid (Hbv.out.kept M.kept)
        replace Hcu := hid (Hcu.out.kept M.kept)
        replace Hnv2 := hid (Hnv2.out.kept M.kept)
        replace Hbv2 := hid (Hbv2.out.kept M.kept)
        replace Hcu2 := hid (Hcu2.out.kept M.kept)
        replace HTV := hid (HTV.out.kept M.kept)
        have h9c : t9 ≠ c := by rw [← hB] at ht9; omega
        have HO9 := hid (own_new HO.out ht9)
        replace HO := hid (own_kept HO.out M.kept)
        replace hb2 := Nat.le_trans hb2 M.kept.size
        replace M := (MW.call M.kept).add M.r0 (by intro p hp; simp at hp; subst hp; exact h9c)
        go_wp2_with fail
        refine S_region (by kernel_rfl) ?_
        replace Hnv := hid (Hnv.out.kept (Kept.refl [] _).drew)
        replace Hbv := hid (Hbv.out.kept (Kept.refl [] _).drew)
        replace Hcu := hid (Hcu.out.kept (Kept.refl [] _).drew)
        replace Hnv2 := hid (Hnv2.out.kept (Kept.refl [] _).drew)
        replace Hbv2 := hid (Hbv2.out.kept (Kept.refl [] _).drew)
        replace Hcu2 := hid (Hcu2.out.kept (Kept.refl [] _).drew)
        replace HTV := hid (HTV.out.kept (Kept.refl [] _).drew)
        replace Hnv3 := hid (Hnv3.out.kept (Kept.refl [] _).drew)
        replace Hbv3 := hid (Hbv3.out.kept (Kept.refl [] _).drew)
        replace HO := hid (own_kept HO.out (Kept.refl [] _).drew)
        refine E_stage 0 10 [0, 1, 2, 3, 4, 5, 6, 7, 8, 9] (by kernel_rfl) M.drew ?_
        clear M
        simp only [List.filterMap_cons, List.filterMap_nil, List.getElem?_cons_zero, List.getElem?_cons_succ]
        ((with_reducible apply E_run); rfl; rfl; (intro w M; go_simp; (try go_ints); (try simp only [↓IntWalk.iteOmega]); (try with_reducible rfl)); simp only [Act.put, List.setIfInBounds_toArray, List.set_cons_zero, List.set_cons_succ])
        ((with_reducible apply E_run); rfl; rfl; (intro w M; go_simp; (try go_ints); (try simp only [↓IntWalk.iteOmega]); (try with_reducible rfl)); simp only [Act.put, List.setIfInBounds_toArray, List.set_cons_zero, List.set_cons_succ])
        ((with_reducible apply E_run); rfl; rfl; (intro w M; go_simp; (try go_ints); (try simp only [↓IntWalk.iteOmega]); (try with_reducible rfl)); simp only [Act.put, List.setIfInBounds_toArray, List.set_cons_zero, List.set_cons_succ])
        ((with_reducible apply E_run); rfl; rfl; (intro w M; go_simp; (try go_ints); (try simp only [↓IntWalk.iteOmega]); (try with_reducible rfl)); simp only [Act.put, List.setIfInBounds_toArray, List.set_cons_zero, List.set_cons_succ])
        ((with_reducible apply E_run); rfl; rfl; (intro w M; go_simp; (try go_ints); (try simp only [↓IntWalk.iteOmega]); (try with_reducible rfl)); simp only [Act.put, List.setIfInBounds_toArray, List.set_cons_zero, List.set_cons_succ])
        ((with_reducible apply E_run); rfl; rfl; (intro w M; go_simp; (try go_ints); (try simp only [↓IntWalk.iteOmega]); (try with_reducible rfl)); simp only [Act.put, List.setIfInBounds_toArray, List.set_cons_zero, List.set_cons_succ])
        ((with_reducible apply E_run); rfl; rfl; (intro w M; exact run_loadCell (M.r1) rfl (ch0_0 _ _) Salg.underlying108 rfl); simp only [Act.put, List.setIfInBounds_toArray, List.set_cons_zero, List.set_cons_succ])
        ((with_reducible apply E_run); rfl; rfl; (intro w M; exact run_loadAll M.r0 rfl Salg.underlying128 rfl (by kernel_rfl)); simp only [Act.put, List.setIfInBounds_toArray, List.set_cons_zero, List.set_cons_succ])
        refine E_buildIt (vs := (acN 240 nv3 bv3 nilS nilS).cells.toArray) (s := 24) rfl rfl Salg.underlying108 size128 zero128s rfl (by decide) (by decide) ?_
        intro bn wa wb K1 hbn hbn2 K2 M
        replace Hnv := hid (Hnv.out.kept K1)
        replace Hbv := hid (Hbv.out.kept K1)
        replace Hcu := hid (Hcu.out.kept K1)
        replace Hnv2 := hid (Hnv2.out.kept K1)
        replace Hbv2 := hid (Hbv2.out.kept K1)
        replace Hcu2 := hid (Hcu2.out.kept K1)
        replace HTV := hid (HTV.out.kept K1)
        replace Hnv3 := hid (Hnv3.out.kept K1)
        replace Hbv3 := hid (Hbv3.out.kept K1)
        replace Hnv := hid (Hnv.out.kept K2)
        replace Hbv := hid (Hbv.out.kept K2)
        replace Hcu := hid (Hcu.out.kept K2)
        replace Hnv2 := hid (Hnv2.out.kept K2)
        replace Hbv2 := hid (Hbv2.out.kept K2)
        replace Hcu2 := hid (Hcu2.out.kept K2)
        replace HTV := hid (HTV.out.kept K2)
        replace Hnv3 := hid (Hnv3.out.kept K2)
        replace Hbv3 := hid (Hbv3.out.kept K2)
        replace HO := hid (own_kept (own_kept HO.out K1) K2)
        have hbw2 : base ≤ wb.heap.size := Nat.le_trans hb2 (Nat.le_trans K1.size K2.size)
        clear K1 K2
        simp only [Act.put, List.setIfInBounds_toArray, List.set_cons_zero, List.set_cons_succ]
        refine E_appendIt (base := base) (n := 2) (m := 1) (s := 24) (bn := bn) (so := 0) (xs := ((acN 1 nv bv cu nilS).cells ++ (acN 2 nv2 bv2 cu2 nilS).cells)) (news := (acN 240 nv3 bv3 nilS nilS).cells) (cs := (acN 240 nv3 bv3 nilS nilS).cells.toArray) info128 Salg.underlying108 rfl (by decide) (by decide) rfl rfl (HO.out) (by decide) M.r0 rfl (cells_news _) (acN_one (n := 240) Hnv3.out.one Hbv3.out.one (cu := nilS) rfl (sl := nilS) rfl) hb1 hbw2 (apart2 HO9.out (own_old HO.out hcb)) ?_
        clear M
        intro VV wc wd K1 M xO hb3 K2
        replace Hnv := hid (Hnv.out.kept K1)
        replace Hbv := hid (Hbv.out.kept K1)
        replace Hcu := hid (Hcu.out.kept K1)
        replace Hnv2 := hid (Hnv2.out.kept K1)
        replace Hbv2 := hid (Hbv2.out.kept K1)
        replace Hcu2 := hid (Hcu2.out.kept K1)
        replace HTV := hid (HTV.out.kept K1)
        replace Hnv3 := hid (Hnv3.out.kept K1)
        replace Hbv3 := hid (Hbv3.out.kept K1)
        replace Hnv := hid (Hnv.out.keptO K2 (own_kept HO.out K1) (k := 23) (p := none) (a := 0) (b := 0) (by kernel_rfl))
        replace Hbv := hid (Hbv.out.keptO K2 (own_kept HO.out K1) (k := 23) (p := none) (a := 0) (b := 0) (by kernel_rfl))
        replace Hcu := hid (Hcu.out.keptO K2 (own_kept HO.out K1) (k := 23) (p := none) (a := 0) (b := 0) (by kernel_rfl))
        replace Hnv2 := hid (Hnv2.out.keptO K2 (own_kept HO.out K1) (k := 23) (p := none) (a := 0) (b := 0) (by kernel_rfl))
        replace Hbv2 := hid (Hbv2.out.keptO K2 (own_kept HO.out K1) (k := 23) (p := none) (a := 0) (b := 0) (by kernel_rfl))
        replace Hcu2 := hid (Hcu2.out.keptO K2 (own_kept HO.out K1) (k := 23) (p := none) (a := 0) (b := 0) (by kernel_rfl))
        replace HTV := hid (HTV.out.keptO K2 (own_kept HO.out K1) (k := 23) (p := none) (a := 0) (b := 0) (by kernel_rfl))
        replace Hnv3 := hid (Hnv3.out.keptO K2 (own_kept HO.out K1) (k := 23) (p := none) (a := 0) (b := 0) (by kernel_rfl))
        replace Hbv3 := hid (Hbv3.out.keptO K2 (own_kept HO.out K1) (k := 23) (p := none) (a := 0) (b := 0) (by kernel_rfl))
        have HOW := hid xO
        clear xO K1 K2
        simp only [Act.put, List.setIfInBounds_toArray, List.set_cons_zero, List.set_cons_succ]
        refine E_nil ?_
        intro w9 K M
        replace Hnv := hid (Hnv.out.kept K)
        replace Hbv := hid (Hbv.out.kept K)
        replace Hcu := hid (Hcu.out.kept K)
        replace Hnv2 := hid (Hnv2.out.kept K)
        replace Hbv2 := hid (Hbv2.out.kept K)
        replace Hcu2 := hid (Hcu2.out.kept K)
        replace HTV := hid (HTV.out.kept K)
        replace Hnv3 := hid (Hnv3.out.kept K)
        replace Hbv3 := hid (Hbv3.out.kept K)
        replace HOW := hid (own_kept HOW.out K)
        replace hb3 := Nat.le_trans hb3 K.size
        clear K
        refine S_seg 10 15 (by kernel_rfl) (by decide) ?_
        simp only [List.take_succ_cons, List.take_zero, List.drop_zero, List.drop_succ_cons, Nat.sub_zero, Nat.reduceSub]
        have HV1 : Hid (VV.oneCell' = true) := own_one HOW.out
        go_wp2_with ((with_reducible apply W_stV (b := c) (o := 0) (v := VV)); rfl; rfl; exact HV1.out; exact M.r1; exact size108; (rw [ch0_size]; decide); intro w10 K hr3; rw [ch0_s0] at hr3; replace Hnv := hid (Hnv.out.keptC K M.r1 (ch0_nb _ _)); replace Hbv := hid (Hbv.out.keptC K M.r1 (ch0_nb _ _)); replace Hcu := hid (Hcu.out.keptC K M.r1 (ch0_nb _ _)); replace Hnv2 := hid (Hnv2.out.keptC K M.r1 (ch0_nb _ _)); replace Hbv2 := hid (Hbv2.out.keptC K M.r1 (ch0_nb _ _)); replace Hcu2 := hid (Hcu2.out.keptC K M.r1 (ch0_nb _ _)); replace HTV := hid (HTV.out.keptC K M.r1 (ch0_nb _ _)); replace Hnv3 := hid (Hnv3.out.keptC K M.r1 (ch0_nb _ _)); replace Hbv3 := hid (Hbv3.out.keptC K M.r1 (ch0_nb _ _)); replace HOW := hid (own_keptC HOW.out K M.r1 (by decide)); replace hb3 := Nat.le_trans hb3 K.size; replace M := Mem.callPut (L1 := [(t9, _)]) M (Or.inr hc) K hr3; clear K hr3; simp only [List.cons_append, List.nil_append] at M)
        refine S_done ?_
        go_wp2_with fail
        refine S_region (by kernel_rfl) ?_
        replace Hnv := hid (Hnv.out.kept (Kept.refl [] _).drew)
        replace Hbv := hid (Hbv.out.kept (Kept.refl [] _).drew)
        replace Hcu := hid (Hcu.out.kept (Kept.refl [] _).drew)
        replace Hnv2 := hid (Hnv2.out.kept (Kept.refl [] _).drew)
        replace Hbv2 := hid (Hbv2.out.kept (Kept.refl [] _).drew)
        replace Hcu2 := hid (Hcu2.out.kept (Kept.refl [] _).drew)
        replace HTV := hid (HTV.out.kept (Kept.refl [] _).drew)
        replace Hnv3 := hid (Hnv3.out.kept (Kept.refl [] _).drew)
        replace Hbv3 := hid (Hbv3.out.kept (Kept.refl [] _).drew)
        replace HOW := hid (own_kept HOW.out (Kept.refl [] _).drew)
        refine E_stage 0 9 [0, 1, 2, 3, 4, 5, 6, 7, 8] (by kernel_rfl) M.drew ?_
        clear M
        simp only [List.filterMap_cons, List.filterMap_nil, List.getElem?_cons_zero, List.getElem?_cons_succ]
        ((with_reducible apply E_run); rfl; rfl; (intro w M; go_simp; (try go_ints); (try simp only [↓IntWalk.iteOmega]); (try with_reducible rfl)); simp only [Act.put, List.setIfInBounds_toArray, List.set_cons_zero, List.set_cons_succ])
        ((with_reducible apply E_run); rfl; rfl; (intro w M; go_simp; (try go_ints); (try simp only [↓IntWalk.iteOmega]); (try with_reducible rfl)); simp only [Act.put, List.setIfInBounds_toArray, List.set_cons_zero, List.set_cons_succ])
        ((with_reducible apply E_run); rfl; rfl; (intro w M; go_simp; (try go_ints); (try simp only [↓IntWalk.iteOmega]); (try with_reducible rfl)); simp only [Act.put, List.setIfInBounds_toArray, List.set_cons_zero, List.set_cons_succ])
        ((with_reducible apply E_run); rfl; rfl; (intro w M; go_simp; (try go_ints); (try simp only [↓IntWalk.iteOmega]); (try with_reducible rfl)); simp only [Act.put, List.setIfInBounds_toArray, List.set_cons_zero, List.set_cons_succ])
        ((with_reducible apply E_run); rfl; rfl; (intro w M; go_simp; (try go_ints); (try simp only [↓IntWalk.iteOmega]); (try with_reducible rfl)); simp only [Act.put, List.setIfInBounds_toArray, List.set_cons_zero, List.set_cons_succ])
        ((with_reducible apply E_run); rfl; rfl; (intro w M; exact run_loadCell (M.r1) rfl (ch0_18 _ _) Salg.underlying89 rfl); simp only [Act.put, List.setIfInBounds_toArray, List.set_cons_zero, List.set_cons_succ])
        ((with_reducible apply E_run); rfl; rfl; (intro w M; go_simp; (try go_ints); (try simp only [↓IntWalk.iteOmega]); (try with_reducible rfl)); simp only [Act.put, List.setIfInBounds_toArray, List.set_cons_zero, List.set_cons_succ])
        ((with_reducible apply E_run); rfl; rfl; (intro w M; exact run_loadCell (M.r0) rfl (show (acN 240 nv3 bv3 nilS nilS).cells.toArray[21]? = some bv3 by kernel_rfl) Salg.underlying89 rfl); simp only [Act.put, List.setIfInBounds_toArray, List.set_cons_zero, List.set_cons_succ])
        refine E_call rfl Salg.func68 (by kernel_rfl) (by kernel_rfl) (args := [tv, bv3]) rfl ?_
        intro w1 K M
        replace Hnv := hid (Hnv.out.kept K)
        replace Hbv := hid (Hbv.out.kept K)
        replace Hcu := hid (Hcu.out.kept K)
        replace Hnv2 := hid (Hnv2.out.kept K)
        replace Hbv2 := hid (Hbv2.out.kept K)
        replace Hcu2 := hid (Hcu2.out.kept K)
        replace HTV := hid (HTV.out.kept K)
        replace Hnv3 := hid (Hnv3.out.kept K)
        replace Hbv3 := hid (Hbv3.out.kept K)
        replace HOW := hid (own_kept HOW.out K)
        replace hb3 := Nat.le_trans hb3 K.size
        clear K
        refine (add_num _ _ 0 340282366920938463463374607431768211456 _ HTV.out Hbv3.out (by decide) (by decide)).mono ?_
        rintro e w11 ⟨tv2, rfl, xHTV2, K⟩
        have HTV2 := hid xHTV2
        clear xHTV2
        replace Hnv := hid (Hnv.out.kept K)
        replace Hbv := hid (Hbv.out.kept K)
        replace Hcu := hid (Hcu.out.kept K)
        replace Hnv2 := hid (Hnv2.out.kept K)
        replace Hbv2 := hid (Hbv2.out.kept K)
        replace Hcu2 := hid (Hcu2.out.kept K)
        replace HTV := hid (HTV.out.kept K)
        replace Hnv3 := hid (Hnv3.out.kept K)
        replace Hbv3 := hid (Hbv3.out.kept K)
        replace HOW := hid (own_kept HOW.out K)
        replace hb3 := Nat.le_trans hb3 K.size
        replace M := M.call K
        refine ⟨_, rfl, trivial, M, ?_⟩
        clear K
        simp only [Act.put, List.setIfInBounds_toArray, List.set_cons_zero, List.set_cons_succ]
        refine E_nil ?_
        intro w12 K M
        replace Hnv := hid (Hnv.out.kept K)
        replace Hbv := hid (Hbv.out.kept K)
        replace Hcu := hid (Hcu.out.kept K)
        replace Hnv2 := hid (Hnv2.out.kept K)
        replace Hbv2 := hid (Hbv2.out.kept K)
        replace Hcu2 := hid (Hcu2.out.kept K)
        replace HTV := hid (HTV.out.kept K)
        replace Hnv3 := hid (Hnv3.out.kept K)
        replace Hbv3 := hid (Hbv3.out.kept K)
        replace HTV2 := hid (HTV2.out.kept K)
        replace HOW := hid (own_kept HOW.out K)
        replace hb3 := Nat.le_trans hb3 K.size
        clear K
        refine S_seg 9 13 (by kernel_rfl) (by decide) ?_
        simp only [List.take_succ_cons, List.take_zero, List.drop_zero, List.drop_succ_cons, Nat.sub_zero, Nat.reduceSub]
        go_wp2_with ((with_reducible apply W_stV (b := c) (o := 18) (v := tv2)); rfl; rfl; exact HTV2.out.one; exact M.r1; exact size89; (rw [ch0_size]; decide); intro w13 K hr3; rw [ch0_s18] at hr3; replace Hnv := hid (Hnv.out.keptC K M.r1 (ch0_nb _ _)); replace Hbv := hid (Hbv.out.keptC K M.r1 (ch0_nb _ _)); replace Hcu := hid (Hcu.out.keptC K M.r1 (ch0_nb _ _)); replace Hnv2 := hid (Hnv2.out.keptC K M.r1 (ch0_nb _ _)); replace Hbv2 := hid (Hbv2.out.keptC K M.r1 (ch0_nb _ _)); replace Hcu2 := hid (Hcu2.out.keptC K M.r1 (ch0_nb _ _)); replace HTV := hid (HTV.out.keptC K M.r1 (ch0_nb _ _)); replace Hnv3 := hid (Hnv3.out.keptC K M.r1 (ch0_nb _ _)); replace Hbv3 := hid (Hbv3.out.keptC K M.r1 (ch0_nb _ _)); replace HTV2 := hid (HTV2.out.keptC K M.r1 (ch0_nb _ _)); replace HOW := hid (own_keptC HOW.out K M.r1 (by decide)); replace hb3 := Nat.le_trans hb3 K.size; replace M := Mem.callPut (L1 := [(t9, _)]) M (Or.inr hc) K hr3; clear K hr3; simp only [List.cons_append, List.nil_append] at M)
        refine S_done ?_
        go_wp2_with fail
        go_roundw
        case rel => exact .inr (.inr (.inr ⟨by go_num, VV, tv2, nv, bv, cu, nv2, bv2, cu2, nv3, bv3, base, M.tail, hb1, hcb, hb3, HOW.out, Hnv.out, Hbv.out, Hcu.out, Hnv2.out, Hbv2.out, Hcu2.out, Hnv3.out, Hbv3.out, HTV2.out⟩))
        case measure => decide
    · have HO := hid xO
      have Hnv := hid xHnv
      have Hbv := hid xHbv
      have Hcu := hid xHcu
      have Hnv2 := hid xHnv2
      have Hbv2 := hid xHbv2
      have Hcu2 := hid xHcu2
      have Hnv3 := hid xHnv3
      have Hbv3 := hid xHbv3
      have HTV := hid xTV
      clear xO xHnv xHbv xHcu xHnv2 xHbv2 xHcu2 xHnv3 xHbv3 xTV
      go_wp2_with fail
      go_ret2
      refine ⟨c, va, tv, nv, bv, cu, nv2, bv2, cu2, nv3, bv3, rfl, M.r0, ⟨own_mono HO.out (Nat.zero_le _), ?_, by simp [l3]⟩, Hnv.out, Hbv.out, Hcu.out, Hnv2.out, Hbv2.out, Hcu2.out, Hnv3.out, Hbv3.out, HTV.out, hc, M.kept⟩
      intro p hp
      simp [l3] at hp
      rcases hp with rfl | rfl | rfl
      · exact ⟨rfl, rfl, (by intro x hx; simp [acN] at hx; rcases hx with rfl | rfl | rfl | rfl; exact Hnv.out.one; exact Hbv.out.one; exact Hcu.out.one; rfl), (ad_ok 1 (by decide)).hs⟩
      · exact ⟨rfl, rfl, (by intro x hx; simp [acN] at hx; rcases hx with rfl | rfl | rfl | rfl; exact Hnv2.out.one; exact Hbv2.out.one; exact Hcu2.out.one; rfl), (ad_ok 2 (by decide)).hs⟩
      · exact ⟨rfl, rfl, (by intro x hx; simp [acN] at hx; rcases hx with rfl | rfl | rfl; exact Hnv3.out.one; exact Hbv3.out.one; rfl), (ad_ok 240 (by decide)).hs⟩

set_option maxHeartbeats 4000000 in
set_option maxRecDepth 100000 in
theorem specOf_three (v u1 u2 : Value) (ds1 ds2 : List Nat) (w : World) (hv : OasV w v [oaN 1 u1, oaN 2 u2, oaB]) (hu1 : NatV w u1 ds1) (hu2 : NatV w u2 ds2) :
    Calls Salg.prog 13 #[v] w fun e w' => ∃ (c : Nat) (va tv nv bv cu nv2 bv2 cu2 nv3 bv3 : Value), e = .returned (.pointer (some ⟨c, 0, none⟩)) ∧ w'.heap[c]? = some (.cells (ch0 va tv) 119 (0, 0)) ∧ AcsV w' va (l3 nv bv cu nilS nv2 bv2 cu2 nv3 bv3) ∧ NumV w' nv 1 ∧ NumV w' bv 0 ∧ NatV w' cu ds1 ∧ NumV w' nv2 1 ∧ NumV w' bv2 0 ∧ NatV w' cu2 ds2 ∧ NumV w' nv3 0 ∧ NumV w' bv3 340282366920938463463374607431768211456 ∧ NumV w' tv 340282366920938463463374607431768211456 ∧ w.heap.size ≤ c ∧ Kept [] w w' := by
  have M := Mem.start w []
  have HN := hid (fun w' (K : Kept [] w w') => new_three v u1 u2 ds1 ds2 w' (hv.kept K) (hu1.kept K) (hu2.kept K))
  clear hv hu1 hu2
  go_enter Salg.func13, Salg.ntmps13
  go_wp2_with fail
  refine (stageEnv_any _).mono ?_
  rintro e w1 ⟨rfl, K⟩
  replace M := M.call K
  clear K
  go_wp2_with fail
  refine (HN.out _ M.kept).mono ?_
  rintro e w2 ⟨c, va, tv, nv, bv, cu, nv2, bv2, cu2, nv3, bv3, rfl, x1, x2, x3, x4, x5, x6, x7, x8, x9, x10, x11, xs, K⟩
  have HX := hid (And.intro x1 (And.intro x2 (And.intro x3 (And.intro x4 (And.intro x5 (And.intro x6 (And.intro x7 (And.intro x8 (And.intro x9 (And.intro x10 (And.intro x11 (Nat.le_trans M.kept.size xs))))))))))))
  replace M := M.call K
  clear x1 x2 x3 x4 x5 x6 x7 x8 x9 x10 x11 xs K HN
  go_wp2_with fail
  go_ret
  obtain ⟨x1, x2, x3, x4, x5, x6, x7, x8, x9, x10, x11, xs⟩ := HX.out
  exact ⟨c, va, tv, nv, bv, cu, nv2, bv2, cu2, nv3, bv3, rfl, x1, x2, x3, x4, x5, x6, x7, x8, x9, x10, x11, xs, M.kept⟩
end Go.Proofs.YgcsalGreat

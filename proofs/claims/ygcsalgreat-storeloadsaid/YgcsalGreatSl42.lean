/-
  The walk of law.StoreLoad.
-/
import Derived.Test.YgcsalGreatSl41
set_option linter.unusedSimpArgs false
set_option linter.unusedVariables false
namespace Go.Proofs.YgcsalGreat
open Go.RowKit Go.Own

set_option maxHeartbeats 4000000 in
set_option maxRecDepth 100000 in
theorem storeLoad_0 (kind : Nat) (k x y : List Nat) (w : World) (hk : kind % 4 = 0) (hk2 : kind < 256) (lk : k.length = 32) (lx : x.length = 32) (ly : y.length = 32) (sk : Small k) (sx : Small x) (sy : Small y) :
    Calls Salg.prog 7 #[.int .u8 kind, A8 k, A8 x, A8 y] w fun e w' => e = .returned (.bool true) ∧ Kept [] w w' := by
  have M := Mem.start w []
  have dk1 : decide ((kind : Int) % 4 = 1) = false := by simp; omega
  have ek1 : decide (kind % 4 = 1) = false := by simp; omega
  have bk1 : ((kind : Int) % 4 == 1) = false := by rw [beq_eq_false_iff_ne]; omega
  have dk2 : decide ((kind : Int) % 4 = 2) = false := by simp; omega
  have ek2 : decide (kind % 4 = 2) = false := by simp; omega
  have bk2 : ((kind : Int) % 4 == 2) = false := by rw [beq_eq_false_iff_ne]; omega
  have dk3 : decide ((kind : Int) % 4 = 3) = false := by simp; omega
  have ek3 : decide (kind % 4 = 3) = false := by simp; omega
  have bk3 : ((kind : Int) % 4 == 3) = false := by rw [beq_eq_false_iff_ne]; omega
  have dg : decide ((0 : Int) < (kind : Int) % 4) = false := by simp; omega
  have eg : decide (0 < kind % 4) = false := by simp; omega
  have HS1 := hid (fun w' => storeProgram_any k x w' lk lx)
  have HS2 := hid (fun w' => storeProgram_any k y w' lk ly)
  have HP := hid (fun w' => push32_any k w' lk)
  have HR := hid (fun w' => ret_any 32 w')
  have hl1 : (first0 k x).length ≤ 256 := by simp [first0, first1, sPr, tPr, lk, lx]
  have hp1 : 0 < (first0 k x).length := by simp [first0, first1, sPr, tPr, lk, lx]
  have hl2 : (sPr k y ++ []).length ≤ 256 := by simp [sPr, lk, ly]
  have hp2 : 0 < (sPr k y ++ []).length := by simp [sPr, lk, ly]
  have hsm1 : Small (first0 k x) := small_app (sPr_small sk sx) (tPr_small sk)
  have hsm2 : Small (sPr k y ++ []) := small_app (sPr_small sk sy) (small_lit rfl)
  have HST := hid (fun b cv1 cv2 w' h1 h2 h3 => stage_two b cv1 cv2 (first0 k x) (sPr k y ++ []) w' h1 h2 hp1 hl1 hsm1 h3 hp2 hl2 hsm2)
  have HSP := hid (fun v u1 u2 w' h1 h2 h3 => specOf_three v u1 u2 (first0 k x) (sPr k y ++ []) w' h1 h2 h3)
  have HAP := hid (fun c va tv nv bv cu nv2 bv2 cu2 nv3 bv3 w' => apply_0 c k x y va tv nv bv cu nv2 bv2 cu2 nv3 bv3 w' lk lx ly sx sy)
  have HWO := hid (fun U g cap ou cv1 s1 cv2 cur w' => holds_any 0 U g cap k x y x ou cv1 s1 cv2 cur w' (by decide) lk lx ly rfl sx)
  have HKR : Hid (((kind : Int) % 4) = 0) := by show _ = _; omega
  have HSK := hid sk
  have HSO := hid sx
  clear hl1 hp1 hl2 hp2 hsm1 hsm2 sk sx sy
  go_enter Salg.func7, Salg.ntmps7
  go_wp2_with (first
    | ((with_reducible apply L_box (d := 5) M); rfl; clear M; intro t5 w1 ht5 M; simp only [Act.put, List.setIfInBounds_toArray, List.set_cons_zero, List.set_cons_succ])
    | ((with_reducible apply L_box (d := 6) M); rfl; clear M; intro t6 w1 ht6 M; simp only [Act.put, List.setIfInBounds_toArray, List.set_cons_zero, List.set_cons_succ])
    | ((with_reducible apply L_box (d := 7) M); rfl; clear M; intro t7 w1 ht7 M; simp only [Act.put, List.setIfInBounds_toArray, List.set_cons_zero, List.set_cons_succ])
    | ((with_reducible apply W_loadAll); rfl; exact M.r2; exact Salg.underlying22; rfl; (rw [size22]; simp [lk]); simp only [Act.put, List.setIfInBounds_toArray, List.set_cons_zero, List.set_cons_succ])
    | ((with_reducible apply W_loadAll); rfl; exact M.r1; exact Salg.underlying22; rfl; (rw [size22]; simp [lx]); simp only [Act.put, List.setIfInBounds_toArray, List.set_cons_zero, List.set_cons_succ]))
  have hw2 := M.kept.size
  refine (HS1.out _).mono ?_
  rintro e w3 ⟨f1, rfl, xHF, K⟩
  have HF := hid xHF
  replace M := M.call K
  clear K xHF
  replace HF := hid (own_mono HF.out hw2)
  have hw3 := M.kept.size
  have hfb : ∀ b, f1.ownBlock = some b → b < w3.heap.size := fun b h => (own_block HF.out h).2
  have hf5 := own_type HF.out M.r2 (by decide)
  have hf6 := own_type HF.out M.r1 (by decide)
  have hf7 := own_type HF.out M.r0 (by decide)
  go_wp2_with (first
    | ((with_reducible apply W_loadAll (dst := 18)); rfl; exact M.r2; exact Salg.underlying22; rfl; (rw [size22]; simp [lk]); simp only [Act.put, List.setIfInBounds_toArray, List.set_cons_zero, List.set_cons_succ])
    | ((with_reducible apply W_loadAll (dst := 19)); rfl; exact M.r0; exact Salg.underlying22; rfl; (rw [size22]; simp [ly]); simp only [Act.put, List.setIfInBounds_toArray, List.set_cons_zero, List.set_cons_succ]))
  refine (HS2.out _).mono ?_
  rintro e w4 ⟨f2, rfl, xHG, K⟩
  have HG := hid xHG
  replace HF := hid (own_kept HF.out K)
  replace M := M.call K
  clear K xHG
  have hgb : ∀ b, f2.ownBlock = some b → w3.heap.size ≤ b ∧ b < w4.heap.size := fun b h => own_block HG.out h
  have hg5 := own_type HG.out M.r2 (by decide)
  have hg6 := own_type HG.out M.r1 (by decide)
  have hg7 := own_type HG.out M.r0 (by decide)
  go_wp2_with (first
    | ((with_reducible apply W_loadAll (dst := 43)); rfl; exact M.r2; exact Salg.underlying22; rfl; (rw [size22]; simp [lk]); simp only [Act.put, List.setIfInBounds_toArray, List.set_cons_zero, List.set_cons_succ]))
  have HFR := hid (RowV.own HF.out)
  have HGR := hid (RowV.own HG.out)
  clear HF HG
  refine (HP.out _).mono ?_
  rintro e w5 ⟨p1, rfl, xHP1, K⟩
  have HP1 := hid xHP1
  replace HFR := hid (HFR.out.kept K)
  replace HGR := hid (HGR.out.kept K)
  replace M := M.call K
  clear K xHP1
  go_wp2_with ((with_reducible apply W_buildN (d := 45) (vs := #[n8 84, n8 95, n8 82]) (e := 5) M); kernel_rfl; clear M; intro bl wl hbl hbl2 KB M; replace HFR := hid (HFR.out.kept KB); replace HGR := hid (HGR.out.kept KB); replace HP1 := hid (HP1.out.kept KB); clear KB; simp only [Act.put, List.setIfInBounds_toArray, List.set_cons_zero, List.set_cons_succ])
  have HL3 := hid (RowV.own (own_lit (base := 0) M.r0 rfl (by decide) (Nat.zero_le _)))
  replace M := M.tail
  refine (HR.out _).mono ?_
  rintro e w6 ⟨p2, rfl, xHP2, K⟩
  have HP2 := hid xHP2
  replace HFR := hid (HFR.out.kept K)
  replace HGR := hid (HGR.out.kept K)
  replace HP1 := hid (HP1.out.kept K)
  replace HL3 := hid (HL3.out.kept K)
  replace M := M.call K
  clear K xHP2
  go_wp2_with fail
  refine (join_four f1 ((127 :: x ++ 127 :: k ++ [85]).map n8) p1 ((127 :: k).map n8) _ _ p2 _ _ HFR.out (by simp) (by simp [lx, lk]) (n8_one _) HP1.out (by simp) (by simp [lk]) (n8_one _) HL3.out (by simp) (by simp) (n8_one [84, 95, 82]) HP2.out (by simp) (by simp) (n8_one _)).mono ?_
  rintro e w7 ⟨jv, rfl, xHJ, K⟩
  have HJ := hid xHJ
  replace HGR := hid (HGR.out.kept K)
  replace M := M.call K
  clear K xHJ
  have HJ2 : Hid (RowV w7 5 jv ((first0 k x).map n8)) := by
    have h := HJ.out
    show RowV _ _ _ _
    simpa [first0, first1, sPr, tPr] using h
  have HG2 : Hid (RowV w7 5 f2 ((sPr k y ++ []).map n8)) := by
    have h := HGR.out
    show RowV _ _ _ _
    simpa [sPr] using h
  have hj1 := HJ2.out.one
  have hg1 := HG2.out.one
  obtain ⟨pj, nj, cj, ej⟩ := rowV_slice HJ2.out
  obtain ⟨pg, ng, cg, eg2⟩ := rowV_slice HG2.out
  clear HJ HGR HFR HP1 HL3 HP2
  have MZ := M
  subst ej eg2
  have M := MZ
  clear MZ
  go_wp2_with ((with_reducible apply W_buildN (d := 50) (vs := #[Value.slice pj nj cj, Value.slice pg ng cg]) (e := 40) M); kernel_rfl; clear M; intro bn wn hbn hbn2 KB M; replace HJ2 := hid (HJ2.out.kept KB); replace HG2 := hid (HG2.out.kept KB); clear KB; simp only [Act.put, List.setIfInBounds_toArray, List.set_cons_zero, List.set_cons_succ])
  refine (HST.out bn _ _ _ M.r0 HJ2.out HG2.out).mono ?_
  rintro e w8 ⟨sw, su1, su2, rfl, xO, xN1, xN2, K⟩
  have HOA := hid xO
  have HSU1 := hid xN1
  have HSU2 := hid xN2
  replace M := (M.call K).tail
  clear K xO xN1 xN2 HJ2 HG2
  go_wp2_with fail
  refine (HSP.out sw su1 su2 _ HOA.out HSU1.out HSU2.out).mono ?_
  rintro e w9 ⟨c, va, tv, nv, bv, cu, nv2, bv2, cu2, nv3, bv3, rfl, xc, xa, x1, x2, x3, x4, x5, x6, x7, x8, x9, xs, K⟩
  have HRC := hid xc
  have HAC := hid xa
  have HX := hid (And.intro x1 (And.intro x2 (And.intro x3 (And.intro x4 (And.intro x5 (And.intro x6 (And.intro x7 (And.intro x8 x9))))))))
  have hcw : w.heap.size ≤ c := Nat.le_trans M.kept.size xs
  replace M := M.call K
  clear K xc xa x1 x2 x3 x4 x5 x6 x7 x8 x9 xs HOA HSU1 HSU2
  go_wp2_with fail
  refine (toA1_any _).mono ?_
  rintro e w10 ⟨rfl, K⟩
  replace HRC := hid (K.row HRC.out (by simp))
  replace HAC := hid (HAC.out.kept K)
  replace HX := hid (And.intro (HX.out.1.kept K) (And.intro (HX.out.2.1.kept K) (And.intro (HX.out.2.2.1.kept K) (And.intro (HX.out.2.2.2.1.kept K) (And.intro (HX.out.2.2.2.2.1.kept K) (And.intro (HX.out.2.2.2.2.2.1.kept K) (And.intro (HX.out.2.2.2.2.2.2.1.kept K) (And.intro (HX.out.2.2.2.2.2.2.2.1.kept K) (HX.out.2.2.2.2.2.2.2.2.kept K)))))))))
  replace M := M.call K
  clear K
  go_wp2_with fail
  refine (HAP.out c va tv nv bv cu nv2 bv2 cu2 nv3 bv3 _ HRC.out HAC.out HX.out.1 HX.out.2.1 HX.out.2.2.1 HX.out.2.2.2.1 HX.out.2.2.2.2.1 HX.out.2.2.2.2.2.1 HX.out.2.2.2.2.2.2.1 HX.out.2.2.2.2.2.2.2.1 HX.out.2.2.2.2.2.2.2.2).mono ?_
  rintro e w11 ⟨ou, U, cs, va2, nz, bz, cz, sz, nz2, bz2, cz2, nz3, bb, rfl, y1, y2, y3, y4, y5, y6, K⟩
  have HY1 := hid y1
  have HY2 := hid y2
  have HY3 := hid y3
  have HY4 := hid y4
  have HY5 := hid y5
  have HY6 := hid y6
  have hc7 : c ≠ t7 := row_ty HRC.out M.r0 (by decide)
  have hc6 : c ≠ t6 := row_ty HRC.out M.r1 (by decide)
  have hc5 : c ≠ t5 := row_ty HRC.out M.r2 (by decide)
  replace M := M.callNew K hcw HRC.out y2 (ne3 hc7 hc6 hc5)
  clear K y1 y2 y3 y4 y5 y6 HRC HAC HX
  have HO1 := hid (rcL_one (u := n64 U) rfl HY1.out.one)
  have HNB : Hid (∀ t l, Obj.cells (rcL (n64 0) nilS).toArray 65 (0, 0) ≠ R8 t l) := not_bytes_at (cs := (rcL (n64 0) nilS).toArray) (tc := 65) (i := 4) (p := none) (n := 0) (m := 0) (by kernel_rfl)
  go_wp2_with (first
    | ((with_reducible apply L_allocN (d := 12) M); exact zero65; clear M; intro t12 w12 ht12 ht12N K12 M; replace HY1 := hid (HY1.out.kept K12); replace HY2 := hid (K12.row HY2.out (by simp)); replace HY4 := hid (HY4.out.kept K12); replace HY5 := hid (HY5.out.kept K12); replace HY6 := hid (HY6.out.kept K12); clear K12; simp only [Act.put, List.setIfInBounds_toArray, List.set_cons_zero, List.set_cons_succ])
    | ((with_reducible apply W_storeK (b := t12) (vs := (rcL (n64 U) ou).toArray)); rfl; rfl; exact M.r0; exact size65; rfl; exact HO1.out; intro w13 K hr3; have hc12 : c ∉ [t12] := (row_ne M.r0 HY2.out (by rintro h; cases h)); replace HY1 := hid (HY1.out.keptC K M.r0 HNB.out); replace HY2 := hid (K.row HY2.out hc12); replace HY4 := hid (HY4.out.keptC K M.r0 (by decide)); replace HY5 := hid (HY5.out.keptC K M.r0 HNB.out wtype65); replace HY6 := hid (HY6.out.keptC K M.r0 HNB.out); replace M := Mem.callPut (L1 := []) M (Or.inr ht12) K hr3; clear K hr3; simp only [List.nil_append] at M))
  have HEX := hid (export_any c 119 cs va2 [⟨1, nz, bz, cz, sz, (List.replicate 32 0), (first0 k x), wantS k x⟩, ⟨2, nz2, bz2, cz2, nilS, (List.replicate 32 0), (sPr k y ++ []), none⟩, ⟨240, nz3, bb, nilS, nilS, balB, [], none⟩])
  have HXA : Hid (∀ x' ∈ ([⟨1, nz, bz, cz, sz, (List.replicate 32 0), (first0 k x), wantS k x⟩, ⟨2, nz2, bz2, cz2, nilS, (List.replicate 32 0), (sPr k y ++ []), none⟩, ⟨240, nz3, bb, nilS, nilS, balB, [], none⟩] : List XA), x'.Ok w13) := by
    intro x' hx'
    simp only [List.mem_cons, List.not_mem_nil, or_false] at hx'
    rcases hx' with rfl | rfl | rfl
    · refine ⟨HY5.out.n1, by rw [be_zero32]; exact HY5.out.b1, rfl, small32, HY5.out.c1, ?_, ?_⟩
      · have hs := HY5.out.s
        unfold slotNew at hs
        simp only [wantS]
        split
        · rename_i hz
          rw [if_pos hz] at hs
          exact hs
        · rename_i hz
          rw [if_neg hz] at hs
          exact hs
      · intro p hp
        simp only [wantS] at hp
        split at hp
        · cases hp
        · cases hp
          exact ⟨lk, HSK.out, lx, HSO.out⟩
    · exact ⟨HY5.out.n2, by rw [be_zero32]; exact HY5.out.b2, rfl, small32, HY5.out.c2, rfl, by intro p hp; cases hp⟩
    · exact ⟨HY5.out.n3, by rw [be_balB]; exact HY6.out, rfl, smallB, NatV.nil _, rfl, by intro p hp; cases hp⟩
  refine S_region (by kernel_rfl) ?_
  replace HY1 := hid (HY1.out.kept (Kept.refl [] _).drew)
  replace HY4 := hid (HY4.out.kept (Kept.refl [] _).drew)
  replace HXA := hid (fun x' hx' => (HXA.out x' hx').kept (Kept.refl [] _).drew)
  have HCR := hid HY2.out
  have hK13 : Kept [] w13 w13.drew := (Kept.refl [] _).drew
  replace HCR := hid (hK13.row HCR.out (by simp))
  refine E_stage 0 9 [0, 1, 2, 3, 4, 5, 6, 7, 8] (by kernel_rfl) M.drew ?_
  clear M hK13
  simp only [List.filterMap_cons, List.filterMap_nil, List.getElem?_cons_zero, List.getElem?_cons_succ]
  ((with_reducible apply E_run); rfl; rfl; (intro w M; go_simp; (try go_ints); (try simp only [↓IntWalk.iteOmega]); (try with_reducible rfl)); simp only [Act.put, List.setIfInBounds_toArray, List.set_cons_zero, List.set_cons_succ])
  ((with_reducible apply E_run); rfl; rfl; (intro w M; exact run_loadAll M.r3 rfl Salg.underlying22 rfl (by rw [size22]; simp [lk])); simp only [Act.put, List.setIfInBounds_toArray, List.set_cons_zero, List.set_cons_succ])
  ((with_reducible apply E_run); rfl; rfl; (intro w M; exact run_loadAll M.r2 rfl Salg.underlying22 rfl (by rw [size22]; simp [lx])); simp only [Act.put, List.setIfInBounds_toArray, List.set_cons_zero, List.set_cons_succ])
  ((with_reducible apply E_run); rfl; rfl; (intro w M; exact run_loadAll M.r1 rfl Salg.underlying22 rfl (by rw [size22]; simp [ly])); simp only [Act.put, List.setIfInBounds_toArray, List.set_cons_zero, List.set_cons_succ])
  ((with_reducible apply E_run); rfl; rfl; (intro w M; exact run_loadAll M.r0 rfl Salg.underlying65 rfl size65); simp only [Act.put, List.setIfInBounds_toArray, List.set_cons_zero, List.set_cons_succ])
  ((with_reducible apply E_run); rfl; rfl; (intro w M; go_simp; (try go_ints); (try simp only [↓IntWalk.iteOmega]); (try with_reducible rfl)); simp only [Act.put, List.setIfInBounds_toArray, List.set_cons_zero, List.set_cons_succ])
  refine E_call rfl Salg.func30 (by kernel_rfl) (by kernel_rfl) (args := [.pointer (some ⟨c, 0, none⟩)]) rfl ?_
  intro w14 K M
  replace HY1 := hid (HY1.out.kept K)
  replace HY4 := hid (HY4.out.kept K)
  replace HXA := hid (fun x' hx' => (HXA.out x' hx').kept K)
  replace HCR := hid (K.row HCR.out (by simp))
  clear K
  refine (HEX.out w14 HCR.out HY3.out HY4.out HXA.out (by simp)).mono ?_
  rintro e w15 ⟨ev, os, rfl, z1, z2, z3, K⟩
  replace HY1 := hid (HY1.out.kept K)
  replace M := M.call K
  clear K
  obtain ⟨o0, o1, o2, rfl⟩ : ∃ o0 o1 o2, os = [o0, o1, o2] := by
    match os, z1 with
    | [o0, o1, o2], _ => exact ⟨o0, o1, o2, rfl⟩
  have q0 := z3 0 _ o0 rfl rfl
  have q1 := z3 1 _ o1 rfl rfl
  obtain ⟨g, ecap, cur, rfl, g1, g2, g3, g4⟩ := own_three z2 (oaS_len rfl) (oaS_len rfl)
  have hs2 : o1.2 = nilS := q1.s
  rw [hs2] at g4
  have HG1 := hid g1
  have HG3 := hid g3
  have HG4 := hid g4
  have HQ0 := hid q0
  have HQ1 := hid q1
  clear z1 z2 z3 q0 q1 g1 g3 g4 hs2
  refine ⟨_, rfl, trivial, M, ?_⟩
  simp only [Act.put, List.setIfInBounds_toArray, List.set_cons_zero, List.set_cons_succ]
  refine E_call rfl Salg.func36 (by kernel_rfl) (by kernel_rfl) (args := [.int .u8 ((kind : Int) % 4), A8 k, A8 x, A8 y, .agg (rcL (n64 U) ou).toArray, .slice (some ⟨g, 0, none⟩) 3 ecap]) rfl ?_
  intro w16 K M
  replace HY1 := hid (HY1.out.kept K)
  replace HG1 := hid (K.row HG1.out (by simp))
  replace HQ0 := hid (HQ0.out.kept K)
  clear K
  rw [HKR.out]
  refine (HWO.out U g ecap ou o0.1 o0.2 o1.1 cur w16 HY1.out HG1.out g2 HG3.out HG4.out HQ0.out.s HQ0.out.c.one HQ1.out.c.one).mono ?_
  rintro e w17 ⟨rfl, K⟩
  replace M := M.call K
  clear K
  refine ⟨_, rfl, trivial, M, ?_⟩
  simp only [Act.put, List.setIfInBounds_toArray, List.set_cons_zero, List.set_cons_succ]
  ((with_reducible apply E_run); rfl; rfl; (intro w M; go_simp; (try go_ints); (try simp only [↓IntWalk.iteOmega]); (try with_reducible rfl)); simp only [Act.put, List.setIfInBounds_toArray, List.set_cons_zero, List.set_cons_succ])
  refine E_nil ?_
  intro w18 K M
  clear K
  refine S_done ?_
  go_wp2_with fail
  go_ret
  exact ⟨rfl, M.kept⟩

set_option maxHeartbeats 4000000 in
set_option maxRecDepth 100000 in
theorem storeLoad_1 (kind : Nat) (k x y : List Nat) (w : World) (hk : kind % 4 = 1) (hk2 : kind < 256) (lk : k.length = 32) (lx : x.length = 32) (ly : y.length = 32) (sk : Small k) (sx : Small x) (sy : Small y) :
    Calls Salg.prog 7 #[.int .u8 kind, A8 k, A8 x, A8 y] w fun e w' => e = .returned (.bool true) ∧ Kept [] w w' := by
  have M := Mem.start w []
  have dk1 : decide ((kind : Int) % 4 = 1) = true := by simp; omega
  have ek1 : decide (kind % 4 = 1) = true := by simp; omega
  have bk1 : ((kind : Int) % 4 == 1) = true := by rw [beq_iff_eq]; omega
  have dk2 : decide ((kind : Int) % 4 = 2) = false := by simp; omega
  have ek2 : decide (kind % 4 = 2) = false := by simp; omega
  have bk2 : ((kind : Int) % 4 == 2) = false := by rw [beq_eq_false_iff_ne]; omega
  have dk3 : decide ((kind : Int) % 4 = 3) = false := by simp; omega
  have ek3 : decide (kind % 4 = 3) = false := by simp; omega
  have bk3 : ((kind : Int) % 4 == 3) = false := by rw [beq_eq_false_iff_ne]; omega
  have dg : decide ((0 : Int) < (kind : Int) % 4) = true := by simp; omega
  have eg : decide (0 < kind % 4) = true := by simp; omega
  have HS1 := hid (fun w' => storeProgram_any k x w' lk lx)
  have HS2 := hid (fun w' => storeProgram_any k y w' lk ly)
  have HP := hid (fun w' => push32_any k w' lk)
  have HR := hid (fun w' => ret_any 32 w')
  have hl1 : (first1 k x).length ≤ 256 := by simp [first0, first1, sPr, tPr, lk, lx]
  have hp1 : 0 < (first1 k x).length := by simp [first0, first1, sPr, tPr, lk, lx]
  have hl2 : (sPr k y ++ [0]).length ≤ 256 := by simp [sPr, lk, ly]
  have hp2 : 0 < (sPr k y ++ [0]).length := by simp [sPr, lk, ly]
  have hsm1 : Small (first1 k x) := small_app (small_app (sPr_small sk sx) (small_lit rfl)) (tPr_small sk)
  have hsm2 : Small (sPr k y ++ [0]) := small_app (sPr_small sk sy) (small_lit rfl)
  have HST := hid (fun b cv1 cv2 w' h1 h2 h3 => stage_two b cv1 cv2 (first1 k x) (sPr k y ++ [0]) w' h1 h2 hp1 hl1 hsm1 h3 hp2 hl2 hsm2)
  have HSP := hid (fun v u1 u2 w' h1 h2 h3 => specOf_three v u1 u2 (first1 k x) (sPr k y ++ [0]) w' h1 h2 h3)
  have HAP := hid (fun c va tv nv bv cu nv2 bv2 cu2 nv3 bv3 w' => apply_1 c k x y va tv nv bv cu nv2 bv2 cu2 nv3 bv3 w' lk lx ly sx sy)
  have HWO := hid (fun U g cap ou cv1 s1 cv2 cur w' => holds_any 1 U g cap k x y y ou cv1 s1 cv2 cur w' (by decide) lk lx ly rfl sy)
  have HKR : Hid (((kind : Int) % 4) = 1) := by show _ = _; omega
  have HSK := hid sk
  have HSO := hid sy
  clear hl1 hp1 hl2 hp2 hsm1 hsm2 sk sx sy
  go_enter Salg.func7, Salg.ntmps7
  go_wp2_with (first
    | ((with_reducible apply L_box (d := 5) M); rfl; clear M; intro t5 w1 ht5 M; simp only [Act.put, List.setIfInBounds_toArray, List.set_cons_zero, List.set_cons_succ])
    | ((with_reducible apply L_box (d := 6) M); rfl; clear M; intro t6 w1 ht6 M; simp only [Act.put, List.setIfInBounds_toArray, List.set_cons_zero, List.set_cons_succ])
    | ((with_reducible apply L_box (d := 7) M); rfl; clear M; intro t7 w1 ht7 M; simp only [Act.put, List.setIfInBounds_toArray, List.set_cons_zero, List.set_cons_succ])
    | ((with_reducible apply W_loadAll); rfl; exact M.r2; exact Salg.underlying22; rfl; (rw [size22]; simp [lk]); simp only [Act.put, List.setIfInBounds_toArray, List.set_cons_zero, List.set_cons_succ])
    | ((with_reducible apply W_loadAll); rfl; exact M.r1; exact Salg.underlying22; rfl; (rw [size22]; simp [lx]); simp only [Act.put, List.setIfInBounds_toArray, List.set_cons_zero, List.set_cons_succ]))
  have hw2 := M.kept.size
  refine (HS1.out _).mono ?_
  rintro e w3 ⟨f1, rfl, xHF, K⟩
  have HF := hid xHF
  replace M := M.call K
  clear K xHF
  replace HF := hid (own_mono HF.out hw2)
  have hw3 := M.kept.size
  have hfb : ∀ b, f1.ownBlock = some b → b < w3.heap.size := fun b h => (own_block HF.out h).2
  have hf5 := own_type HF.out M.r2 (by decide)
  have hf6 := own_type HF.out M.r1 (by decide)
  have hf7 := own_type HF.out M.r0 (by decide)
  go_wp2_with (first
    | ((with_reducible apply W_loadAll (dst := 18)); rfl; exact M.r2; exact Salg.underlying22; rfl; (rw [size22]; simp [lk]); simp only [Act.put, List.setIfInBounds_toArray, List.set_cons_zero, List.set_cons_succ])
    | ((with_reducible apply W_loadAll (dst := 19)); rfl; exact M.r0; exact Salg.underlying22; rfl; (rw [size22]; simp [ly]); simp only [Act.put, List.setIfInBounds_toArray, List.set_cons_zero, List.set_cons_succ]))
  refine (HS2.out _).mono ?_
  rintro e w4 ⟨f2, rfl, xHG, K⟩
  have HG := hid xHG
  replace HF := hid (own_kept HF.out K)
  have hw34x := K.size
  replace M := M.call K
  clear K xHG
  have hgb : ∀ b, f2.ownBlock = some b → w3.heap.size ≤ b ∧ b < w4.heap.size := fun b h => own_block HG.out h
  have hg5 := own_type HG.out M.r2 (by decide)
  have hg6 := own_type HG.out M.r1 (by decide)
  have hg7 := own_type HG.out M.r0 (by decide)
  have hw34 : w3.heap.size ≤ w4.heap.size := hw34x
  go_wp2_with (first
    | ((with_reducible apply W_buildN (d := 24) (vs := #[n8 95, n8 95, n8 95, n8 95, n8 96, n8 2, n8 97, n8 195, n8 80, n8 244]) (e := 5) M); kernel_rfl; clear M; intro bn1 wb1 hbn1 hbn12 KB M; replace HF := hid (own_kept HF.out KB); replace HG := hid (own_kept HG.out KB); have hsz1 := KB.size; clear KB; simp only [Act.put, List.setIfInBounds_toArray, List.set_cons_zero, List.set_cons_succ])
    | ((with_reducible apply W_appendX (d := 25) (base := w.heap.size) (n := 67) (m := 10) (s := 1) (bn := bn1) (so := 0) (news := ([95, 95, 95, 95, 96, 2, 97, 195, 80, 244].map n8)) (cs := #[n8 95, n8 95, n8 95, n8 95, n8 96, n8 2, n8 97, n8 195, n8 80, n8 244]) M.tail); exact info5; exact Salg.underlying40; rfl; decide; decide; rfl; rfl; exact HF.out; decide; exact M.r0; rfl; exact cells_news _; exact n8_one _; exact Nat.le_refl _; exact M.kept.size; exact apart3 hf7 hf6 hf5; clear M; intro F1 wa1 M xO hb1 KA hX; have hh : ∀ b, f2.ownBlock = some b → b ∉ f1.ownBlock.toList := (by intro b hb hx; have e1 := hfb b (by simpa using hx); have e2 := (hgb b hb).1; omega); replace HG := hid (own_keptX HG.out KA hh); have hF1 : ∀ b, F1.ownBlock = some b → f2.ownBlock ≠ some b := (fun b hb hg => by have e2 := hgb b hg; rcases hX b hb with h | h; (have := hfb b h; omega); omega); replace HF := hid xO; have hw3b : w3.heap.size ≤ wa1.heap.size := (Nat.le_trans hw34 (Nat.le_trans hsz1 KA.size)); clear xO KA hX; simp only [Act.put, List.setIfInBounds_toArray, List.set_cons_zero, List.set_cons_succ])
    | ((with_reducible apply W_buildN (d := 30) (vs := #[n8 0]) (e := 5) M); kernel_rfl; clear M; intro bn2 wb2 hbn2 hbn22 KB M; replace HF := hid (own_kept HF.out KB); replace HG := hid (own_kept HG.out KB); have hszb2 := KB.size; clear KB; simp only [Act.put, List.setIfInBounds_toArray, List.set_cons_zero, List.set_cons_succ])
    | ((with_reducible apply W_appendX (d := 31) (base := w3.heap.size) (n := 67) (m := 1) (s := 1) (bn := bn2) (so := 0) (news := ([0].map n8)) (cs := #[n8 0]) M.tail); exact info5; exact Salg.underlying40; rfl; decide; decide; rfl; rfl; exact HG.out; decide; exact M.r0; rfl; exact cells_news _; exact n8_one _; exact hw3; exact (Nat.le_trans hw3b hszb2); exact apart3 hg7 hg6 hg5; clear M; intro F2 wa2 M xO hb2 KA hX; have hh2 : ∀ b, F1.ownBlock = some b → b ∉ f2.ownBlock.toList := (by intro b hb hx; exact hF1 b hb (by simpa using hx)); replace HF := hid (own_keptX HF.out KA hh2); replace HG := hid xO; clear xO KA hX; simp only [Act.put, List.setIfInBounds_toArray, List.set_cons_zero, List.set_cons_succ])
    | ((with_reducible apply W_loadAll (dst := 43)); rfl; exact M.r2; exact Salg.underlying22; rfl; (rw [size22]; simp [lk]); simp only [Act.put, List.setIfInBounds_toArray, List.set_cons_zero, List.set_cons_succ]))
  have HFR := hid (RowV.own HF.out)
  have HGR := hid (RowV.own HG.out)
  clear HF HG
  refine (HP.out _).mono ?_
  rintro e w5 ⟨p1, rfl, xHP1, K⟩
  have HP1 := hid xHP1
  replace HFR := hid (HFR.out.kept K)
  replace HGR := hid (HGR.out.kept K)
  replace M := M.call K
  clear K xHP1
  go_wp2_with ((with_reducible apply W_buildN (d := 45) (vs := #[n8 84, n8 95, n8 82]) (e := 5) M); kernel_rfl; clear M; intro bl wl hbl hbl2 KB M; replace HFR := hid (HFR.out.kept KB); replace HGR := hid (HGR.out.kept KB); replace HP1 := hid (HP1.out.kept KB); clear KB; simp only [Act.put, List.setIfInBounds_toArray, List.set_cons_zero, List.set_cons_succ])
  have HL3 := hid (RowV.own (own_lit (base := 0) M.r0 rfl (by decide) (Nat.zero_le _)))
  replace M := M.tail
  refine (HR.out _).mono ?_
  rintro e w6 ⟨p2, rfl, xHP2, K⟩
  have HP2 := hid xHP2
  replace HFR := hid (HFR.out.kept K)
  replace HGR := hid (HGR.out.kept K)
  replace HP1 := hid (HP1.out.kept K)
  replace HL3 := hid (HL3.out.kept K)
  replace M := M.call K
  clear K xHP2
  go_wp2_with fail
  refine (join_four F1 ((127 :: x ++ 127 :: k ++ [85]).map n8 ++ [95, 95, 95, 95, 96, 2, 97, 195, 80, 244].map n8) p1 ((127 :: k).map n8) _ _ p2 _ _ HFR.out (by simp) (by simp [lx, lk]) (by rw [← List.map_append]; exact n8_one _) HP1.out (by simp) (by simp [lk]) (n8_one _) HL3.out (by simp) (by simp) (n8_one [84, 95, 82]) HP2.out (by simp) (by simp) (n8_one _)).mono ?_
  rintro e w7 ⟨jv, rfl, xHJ, K⟩
  have HJ := hid xHJ
  replace HGR := hid (HGR.out.kept K)
  replace M := M.call K
  clear K xHJ
  have HJ2 : Hid (RowV w7 5 jv ((first1 k x).map n8)) := by
    have h := HJ.out
    show RowV _ _ _ _
    simpa [first0, first1, sPr, tPr] using h
  have HG2 : Hid (RowV w7 5 F2 ((sPr k y ++ [0]).map n8)) := by
    have h := HGR.out
    show RowV _ _ _ _
    simpa [sPr] using h
  have hj1 := HJ2.out.one
  have hg1 := HG2.out.one
  obtain ⟨pj, nj, cj, ej⟩ := rowV_slice HJ2.out
  obtain ⟨pg, ng, cg, eg2⟩ := rowV_slice HG2.out
  clear HJ HGR HFR HP1 HL3 HP2
  have MZ := M
  subst ej eg2
  have M := MZ
  clear MZ
  go_wp2_with ((with_reducible apply W_buildN (d := 50) (vs := #[Value.slice pj nj cj, Value.slice pg ng cg]) (e := 40) M); kernel_rfl; clear M; intro bn wn hbn hbn2 KB M; replace HJ2 := hid (HJ2.out.kept KB); replace HG2 := hid (HG2.out.kept KB); clear KB; simp only [Act.put, List.setIfInBounds_toArray, List.set_cons_zero, List.set_cons_succ])
  refine (HST.out bn _ _ _ M.r0 HJ2.out HG2.out).mono ?_
  rintro e w8 ⟨sw, su1, su2, rfl, xO, xN1, xN2, K⟩
  have HOA := hid xO
  have HSU1 := hid xN1
  have HSU2 := hid xN2
  replace M := (M.call K).tail
  clear K xO xN1 xN2 HJ2 HG2
  go_wp2_with fail
  refine (HSP.out sw su1 su2 _ HOA.out HSU1.out HSU2.out).mono ?_
  rintro e w9 ⟨c, va, tv, nv, bv, cu, nv2, bv2, cu2, nv3, bv3, rfl, xc, xa, x1, x2, x3, x4, x5, x6, x7, x8, x9, xs, K⟩
  have HRC := hid xc
  have HAC := hid xa
  have HX := hid (And.intro x1 (And.intro x2 (And.intro x3 (And.intro x4 (And.intro x5 (And.intro x6 (And.intro x7 (And.intro x8 x9))))))))
  have hcw : w.heap.size ≤ c := Nat.le_trans M.kept.size xs
  replace M := M.call K
  clear K xc xa x1 x2 x3 x4 x5 x6 x7 x8 x9 xs HOA HSU1 HSU2
  go_wp2_with fail
  refine (toA1_any _).mono ?_
  rintro e w10 ⟨rfl, K⟩
  replace HRC := hid (K.row HRC.out (by simp))
  replace HAC := hid (HAC.out.kept K)
  replace HX := hid (And.intro (HX.out.1.kept K) (And.intro (HX.out.2.1.kept K) (And.intro (HX.out.2.2.1.kept K) (And.intro (HX.out.2.2.2.1.kept K) (And.intro (HX.out.2.2.2.2.1.kept K) (And.intro (HX.out.2.2.2.2.2.1.kept K) (And.intro (HX.out.2.2.2.2.2.2.1.kept K) (And.intro (HX.out.2.2.2.2.2.2.2.1.kept K) (HX.out.2.2.2.2.2.2.2.2.kept K)))))))))
  replace M := M.call K
  clear K
  go_wp2_with fail
  refine (HAP.out c va tv nv bv cu nv2 bv2 cu2 nv3 bv3 _ HRC.out HAC.out HX.out.1 HX.out.2.1 HX.out.2.2.1 HX.out.2.2.2.1 HX.out.2.2.2.2.1 HX.out.2.2.2.2.2.1 HX.out.2.2.2.2.2.2.1 HX.out.2.2.2.2.2.2.2.1 HX.out.2.2.2.2.2.2.2.2).mono ?_
  rintro e w11 ⟨ou, U, cs, va2, nz, bz, cz, sz, nz2, bz2, cz2, nz3, bb, rfl, y1, y2, y3, y4, y5, y6, K⟩
  have HY1 := hid y1
  have HY2 := hid y2
  have HY3 := hid y3
  have HY4 := hid y4
  have HY5 := hid y5
  have HY6 := hid y6
  have hc7 : c ≠ t7 := row_ty HRC.out M.r0 (by decide)
  have hc6 : c ≠ t6 := row_ty HRC.out M.r1 (by decide)
  have hc5 : c ≠ t5 := row_ty HRC.out M.r2 (by decide)
  replace M := M.callNew K hcw HRC.out y2 (ne3 hc7 hc6 hc5)
  clear K y1 y2 y3 y4 y5 y6 HRC HAC HX
  have HO1 := hid (rcL_one (u := n64 U) rfl HY1.out.one)
  have HNB : Hid (∀ t l, Obj.cells (rcL (n64 0) nilS).toArray 65 (0, 0) ≠ R8 t l) := not_bytes_at (cs := (rcL (n64 0) nilS).toArray) (tc := 65) (i := 4) (p := none) (n := 0) (m := 0) (by kernel_rfl)
  go_wp2_with (first
    | ((with_reducible apply L_allocN (d := 12) M); exact zero65; clear M; intro t12 w12 ht12 ht12N K12 M; replace HY1 := hid (HY1.out.kept K12); replace HY2 := hid (K12.row HY2.out (by simp)); replace HY4 := hid (HY4.out.kept K12); replace HY5 := hid (HY5.out.kept K12); replace HY6 := hid (HY6.out.kept K12); clear K12; simp only [Act.put, List.setIfInBounds_toArray, List.set_cons_zero, List.set_cons_succ])
    | ((with_reducible apply W_storeK (b := t12) (vs := (rcL (n64 U) ou).toArray)); rfl; rfl; exact M.r0; exact size65; rfl; exact HO1.out; intro w13 K hr3; have hc12 : c ∉ [t12] := (row_ne M.r0 HY2.out (by rintro h; cases h)); replace HY1 := hid (HY1.out.keptC K M.r0 HNB.out); replace HY2 := hid (K.row HY2.out hc12); replace HY4 := hid (HY4.out.keptC K M.r0 (by decide)); replace HY5 := hid (HY5.out.keptC K M.r0 HNB.out wtype65); replace HY6 := hid (HY6.out.keptC K M.r0 HNB.out); replace M := Mem.callPut (L1 := []) M (Or.inr ht12) K hr3; clear K hr3; simp only [List.nil_append] at M))
  have HEX := hid (export_any c 119 cs va2 [⟨1, nz, bz, cz, sz, (List.replicate 32 0), (first1 k x), wantS k y⟩, ⟨2, nz2, bz2, cz2, nilS, (List.replicate 32 0), (sPr k y ++ [0]), none⟩, ⟨240, nz3, bb, nilS, nilS, balB, [], none⟩])
  have HXA : Hid (∀ x' ∈ ([⟨1, nz, bz, cz, sz, (List.replicate 32 0), (first1 k x), wantS k y⟩, ⟨2, nz2, bz2, cz2, nilS, (List.replicate 32 0), (sPr k y ++ [0]), none⟩, ⟨240, nz3, bb, nilS, nilS, balB, [], none⟩] : List XA), x'.Ok w13) := by
    intro x' hx'
    simp only [List.mem_cons, List.not_mem_nil, or_false] at hx'
    rcases hx' with rfl | rfl | rfl
    · refine ⟨HY5.out.n1, by rw [be_zero32]; exact HY5.out.b1, rfl, small32, HY5.out.c1, ?_, ?_⟩
      · have hs := HY5.out.s
        unfold slotNew at hs
        simp only [wantS]
        split
        · rename_i hz
          rw [if_pos hz] at hs
          exact hs
        · rename_i hz
          rw [if_neg hz] at hs
          exact hs
      · intro p hp
        simp only [wantS] at hp
        split at hp
        · cases hp
        · cases hp
          exact ⟨lk, HSK.out, ly, HSO.out⟩
    · exact ⟨HY5.out.n2, by rw [be_zero32]; exact HY5.out.b2, rfl, small32, HY5.out.c2, rfl, by intro p hp; cases hp⟩
    · exact ⟨HY5.out.n3, by rw [be_balB]; exact HY6.out, rfl, smallB, NatV.nil _, rfl, by intro p hp; cases hp⟩
  refine S_region (by kernel_rfl) ?_
  replace HY1 := hid (HY1.out.kept (Kept.refl [] _).drew)
  replace HY4 := hid (HY4.out.kept (Kept.refl [] _).drew)
  replace HXA := hid (fun x' hx' => (HXA.out x' hx').kept (Kept.refl [] _).drew)
  have HCR := hid HY2.out
  have hK13 : Kept [] w13 w13.drew := (Kept.refl [] _).drew
  replace HCR := hid (hK13.row HCR.out (by simp))
  refine E_stage 0 9 [0, 1, 2, 3, 4, 5, 6, 7, 8] (by kernel_rfl) M.drew ?_
  clear M hK13
  simp only [List.filterMap_cons, List.filterMap_nil, List.getElem?_cons_zero, List.getElem?_cons_succ]
  ((with_reducible apply E_run); rfl; rfl; (intro w M; go_simp; (try go_ints); (try simp only [↓IntWalk.iteOmega]); (try with_reducible rfl)); simp only [Act.put, List.setIfInBounds_toArray, List.set_cons_zero, List.set_cons_succ])
  ((with_reducible apply E_run); rfl; rfl; (intro w M; exact run_loadAll M.r3 rfl Salg.underlying22 rfl (by rw [size22]; simp [lk])); simp only [Act.put, List.setIfInBounds_toArray, List.set_cons_zero, List.set_cons_succ])
  ((with_reducible apply E_run); rfl; rfl; (intro w M; exact run_loadAll M.r2 rfl Salg.underlying22 rfl (by rw [size22]; simp [lx])); simp only [Act.put, List.setIfInBounds_toArray, List.set_cons_zero, List.set_cons_succ])
  ((with_reducible apply E_run); rfl; rfl; (intro w M; exact run_loadAll M.r1 rfl Salg.underlying22 rfl (by rw [size22]; simp [ly])); simp only [Act.put, List.setIfInBounds_toArray, List.set_cons_zero, List.set_cons_succ])
  ((with_reducible apply E_run); rfl; rfl; (intro w M; exact run_loadAll M.r0 rfl Salg.underlying65 rfl size65); simp only [Act.put, List.setIfInBounds_toArray, List.set_cons_zero, List.set_cons_succ])
  ((with_reducible apply E_run); rfl; rfl; (intro w M; go_simp; (try go_ints); (try simp only [↓IntWalk.iteOmega]); (try with_reducible rfl)); simp only [Act.put, List.setIfInBounds_toArray, List.set_cons_zero, List.set_cons_succ])
  refine E_call rfl Salg.func30 (by kernel_rfl) (by kernel_rfl) (args := [.pointer (some ⟨c, 0, none⟩)]) rfl ?_
  intro w14 K M
  replace HY1 := hid (HY1.out.kept K)
  replace HY4 := hid (HY4.out.kept K)
  replace HXA := hid (fun x' hx' => (HXA.out x' hx').kept K)
  replace HCR := hid (K.row HCR.out (by simp))
  clear K
  refine (HEX.out w14 HCR.out HY3.out HY4.out HXA.out (by simp)).mono ?_
  rintro e w15 ⟨ev, os, rfl, z1, z2, z3, K⟩
  replace HY1 := hid (HY1.out.kept K)
  replace M := M.call K
  clear K
  obtain ⟨o0, o1, o2, rfl⟩ : ∃ o0 o1 o2, os = [o0, o1, o2] := by
    match os, z1 with
    | [o0, o1, o2], _ => exact ⟨o0, o1, o2, rfl⟩
  have q0 := z3 0 _ o0 rfl rfl
  have q1 := z3 1 _ o1 rfl rfl
  obtain ⟨g, ecap, cur, rfl, g1, g2, g3, g4⟩ := own_three z2 (oaS_len rfl) (oaS_len rfl)
  have hs2 : o1.2 = nilS := q1.s
  rw [hs2] at g4
  have HG1 := hid g1
  have HG3 := hid g3
  have HG4 := hid g4
  have HQ0 := hid q0
  have HQ1 := hid q1
  clear z1 z2 z3 q0 q1 g1 g3 g4 hs2
  refine ⟨_, rfl, trivial, M, ?_⟩
  simp only [Act.put, List.setIfInBounds_toArray, List.set_cons_zero, List.set_cons_succ]
  refine E_call rfl Salg.func36 (by kernel_rfl) (by kernel_rfl) (args := [.int .u8 ((kind : Int) % 4), A8 k, A8 x, A8 y, .agg (rcL (n64 U) ou).toArray, .slice (some ⟨g, 0, none⟩) 3 ecap]) rfl ?_
  intro w16 K M
  replace HY1 := hid (HY1.out.kept K)
  replace HG1 := hid (K.row HG1.out (by simp))
  replace HQ0 := hid (HQ0.out.kept K)
  clear K
  rw [HKR.out]
  refine (HWO.out U g ecap ou o0.1 o0.2 o1.1 cur w16 HY1.out HG1.out g2 HG3.out HG4.out HQ0.out.s HQ0.out.c.one HQ1.out.c.one).mono ?_
  rintro e w17 ⟨rfl, K⟩
  replace M := M.call K
  clear K
  refine ⟨_, rfl, trivial, M, ?_⟩
  simp only [Act.put, List.setIfInBounds_toArray, List.set_cons_zero, List.set_cons_succ]
  ((with_reducible apply E_run); rfl; rfl; (intro w M; go_simp; (try go_ints); (try simp only [↓IntWalk.iteOmega]); (try with_reducible rfl)); simp only [Act.put, List.setIfInBounds_toArray, List.set_cons_zero, List.set_cons_succ])
  refine E_nil ?_
  intro w18 K M
  clear K
  refine S_done ?_
  go_wp2_with fail
  go_ret
  exact ⟨rfl, M.kept⟩

set_option maxHeartbeats 4000000 in
set_option maxRecDepth 100000 in
theorem storeLoad_2 (kind : Nat) (k x y : List Nat) (w : World) (hk : kind % 4 = 2) (hk2 : kind < 256) (lk : k.length = 32) (lx : x.length = 32) (ly : y.length = 32) (sk : Small k) (sx : Small x) (sy : Small y) :
    Calls Salg.prog 7 #[.int .u8 kind, A8 k, A8 x, A8 y] w fun e w' => e = .returned (.bool true) ∧ Kept [] w w' := by
  have M := Mem.start w []
  have dk1 : decide ((kind : Int) % 4 = 1) = false := by simp; omega
  have ek1 : decide (kind % 4 = 1) = false := by simp; omega
  have bk1 : ((kind : Int) % 4 == 1) = false := by rw [beq_eq_false_iff_ne]; omega
  have dk2 : decide ((kind : Int) % 4 = 2) = true := by simp; omega
  have ek2 : decide (kind % 4 = 2) = true := by simp; omega
  have bk2 : ((kind : Int) % 4 == 2) = true := by rw [beq_iff_eq]; omega
  have dk3 : decide ((kind : Int) % 4 = 3) = false := by simp; omega
  have ek3 : decide (kind % 4 = 3) = false := by simp; omega
  have bk3 : ((kind : Int) % 4 == 3) = false := by rw [beq_eq_false_iff_ne]; omega
  have dg : decide ((0 : Int) < (kind : Int) % 4) = true := by simp; omega
  have eg : decide (0 < kind % 4) = true := by simp; omega
  have HS1 := hid (fun w' => storeProgram_any k x w' lk lx)
  have HS2 := hid (fun w' => storeProgram_any k y w' lk ly)
  have HP := hid (fun w' => push32_any k w' lk)
  have HR := hid (fun w' => ret_any 32 w')
  have hl1 : (first1 k x).length ≤ 256 := by simp [first0, first1, sPr, tPr, lk, lx]
  have hp1 : 0 < (first1 k x).length := by simp [first0, first1, sPr, tPr, lk, lx]
  have hl2 : (sPr k y ++ [95, 95, 253]).length ≤ 256 := by simp [sPr, lk, ly]
  have hp2 : 0 < (sPr k y ++ [95, 95, 253]).length := by simp [sPr, lk, ly]
  have hsm1 : Small (first1 k x) := small_app (small_app (sPr_small sk sx) (small_lit rfl)) (tPr_small sk)
  have hsm2 : Small (sPr k y ++ [95, 95, 253]) := small_app (sPr_small sk sy) (small_lit rfl)
  have HST := hid (fun b cv1 cv2 w' h1 h2 h3 => stage_two b cv1 cv2 (first1 k x) (sPr k y ++ [95, 95, 253]) w' h1 h2 hp1 hl1 hsm1 h3 hp2 hl2 hsm2)
  have HSP := hid (fun v u1 u2 w' h1 h2 h3 => specOf_three v u1 u2 (first1 k x) (sPr k y ++ [95, 95, 253]) w' h1 h2 h3)
  have HAP := hid (fun c va tv nv bv cu nv2 bv2 cu2 nv3 bv3 w' => apply_2 c k x y va tv nv bv cu nv2 bv2 cu2 nv3 bv3 w' lk lx ly sx sy)
  have HWO := hid (fun U g cap ou cv1 s1 cv2 cur w' => holds_any 2 U g cap k x y x ou cv1 s1 cv2 cur w' (by decide) lk lx ly rfl sx)
  have HKR : Hid (((kind : Int) % 4) = 2) := by show _ = _; omega
  have HSK := hid sk
  have HSO := hid sx
  clear hl1 hp1 hl2 hp2 hsm1 hsm2 sk sx sy
  go_enter Salg.func7, Salg.ntmps7
  go_wp2_with (first
    | ((with_reducible apply L_box (d := 5) M); rfl; clear M; intro t5 w1 ht5 M; simp only [Act.put, List.setIfInBounds_toArray, List.set_cons_zero, List.set_cons_succ])
    | ((with_reducible apply L_box (d := 6) M); rfl; clear M; intro t6 w1 ht6 M; simp only [Act.put, List.setIfInBounds_toArray, List.set_cons_zero, List.set_cons_succ])
    | ((with_reducible apply L_box (d := 7) M); rfl; clear M; intro t7 w1 ht7 M; simp only [Act.put, List.setIfInBounds_toArray, List.set_cons_zero, List.set_cons_succ])
    | ((with_reducible apply W_loadAll); rfl; exact M.r2; exact Salg.underlying22; rfl; (rw [size22]; simp [lk]); simp only [Act.put, List.setIfInBounds_toArray, List.set_cons_zero, List.set_cons_succ])
    | ((with_reducible apply W_loadAll); rfl; exact M.r1; exact Salg.underlying22; rfl; (rw [size22]; simp [lx]); simp only [Act.put, List.setIfInBounds_toArray, List.set_cons_zero, List.set_cons_succ]))
  have hw2 := M.kept.size
  refine (HS1.out _).mono ?_
  rintro e w3 ⟨f1, rfl, xHF, K⟩
  have HF := hid xHF
  replace M := M.call K
  clear K xHF
  replace HF := hid (own_mono HF.out hw2)
  have hw3 := M.kept.size
  have hfb : ∀ b, f1.ownBlock = some b → b < w3.heap.size := fun b h => (own_block HF.out h).2
  have hf5 := own_type HF.out M.r2 (by decide)
  have hf6 := own_type HF.out M.r1 (by decide)
  have hf7 := own_type HF.out M.r0 (by decide)
  go_wp2_with (first
    | ((with_reducible apply W_loadAll (dst := 18)); rfl; exact M.r2; exact Salg.underlying22; rfl; (rw [size22]; simp [lk]); simp only [Act.put, List.setIfInBounds_toArray, List.set_cons_zero, List.set_cons_succ])
    | ((with_reducible apply W_loadAll (dst := 19)); rfl; exact M.r0; exact Salg.underlying22; rfl; (rw [size22]; simp [ly]); simp only [Act.put, List.setIfInBounds_toArray, List.set_cons_zero, List.set_cons_succ]))
  refine (HS2.out _).mono ?_
  rintro e w4 ⟨f2, rfl, xHG, K⟩
  have HG := hid xHG
  replace HF := hid (own_kept HF.out K)
  have hw34x := K.size
  replace M := M.call K
  clear K xHG
  have hgb : ∀ b, f2.ownBlock = some b → w3.heap.size ≤ b ∧ b < w4.heap.size := fun b h => own_block HG.out h
  have hg5 := own_type HG.out M.r2 (by decide)
  have hg6 := own_type HG.out M.r1 (by decide)
  have hg7 := own_type HG.out M.r0 (by decide)
  have hw34 : w3.heap.size ≤ w4.heap.size := hw34x
  go_wp2_with (first
    | ((with_reducible apply W_buildN (d := 24) (vs := #[n8 95, n8 95, n8 95, n8 95, n8 96, n8 2, n8 97, n8 195, n8 80, n8 244]) (e := 5) M); kernel_rfl; clear M; intro bn1 wb1 hbn1 hbn12 KB M; replace HF := hid (own_kept HF.out KB); replace HG := hid (own_kept HG.out KB); have hsz1 := KB.size; clear KB; simp only [Act.put, List.setIfInBounds_toArray, List.set_cons_zero, List.set_cons_succ])
    | ((with_reducible apply W_appendX (d := 25) (base := w.heap.size) (n := 67) (m := 10) (s := 1) (bn := bn1) (so := 0) (news := ([95, 95, 95, 95, 96, 2, 97, 195, 80, 244].map n8)) (cs := #[n8 95, n8 95, n8 95, n8 95, n8 96, n8 2, n8 97, n8 195, n8 80, n8 244]) M.tail); exact info5; exact Salg.underlying40; rfl; decide; decide; rfl; rfl; exact HF.out; decide; exact M.r0; rfl; exact cells_news _; exact n8_one _; exact Nat.le_refl _; exact M.kept.size; exact apart3 hf7 hf6 hf5; clear M; intro F1 wa1 M xO hb1 KA hX; have hh : ∀ b, f2.ownBlock = some b → b ∉ f1.ownBlock.toList := (by intro b hb hx; have e1 := hfb b (by simpa using hx); have e2 := (hgb b hb).1; omega); replace HG := hid (own_keptX HG.out KA hh); have hF1 : ∀ b, F1.ownBlock = some b → f2.ownBlock ≠ some b := (fun b hb hg => by have e2 := hgb b hg; rcases hX b hb with h | h; (have := hfb b h; omega); omega); replace HF := hid xO; have hw3b : w3.heap.size ≤ wa1.heap.size := (Nat.le_trans hw34 (Nat.le_trans hsz1 KA.size)); clear xO KA hX; simp only [Act.put, List.setIfInBounds_toArray, List.set_cons_zero, List.set_cons_succ])
    | ((with_reducible apply W_buildN (d := 35) (vs := #[n8 95, n8 95, n8 253]) (e := 5) M); kernel_rfl; clear M; intro bn2 wb2 hbn2 hbn22 KB M; replace HF := hid (own_kept HF.out KB); replace HG := hid (own_kept HG.out KB); have hszb2 := KB.size; clear KB; simp only [Act.put, List.setIfInBounds_toArray, List.set_cons_zero, List.set_cons_succ])
    | ((with_reducible apply W_appendX (d := 36) (base := w3.heap.size) (n := 67) (m := 3) (s := 1) (bn := bn2) (so := 0) (news := ([95, 95, 253].map n8)) (cs := #[n8 95, n8 95, n8 253]) M.tail); exact info5; exact Salg.underlying40; rfl; decide; decide; rfl; rfl; exact HG.out; decide; exact M.r0; rfl; exact cells_news _; exact n8_one _; exact hw3; exact (Nat.le_trans hw3b hszb2); exact apart3 hg7 hg6 hg5; clear M; intro F2 wa2 M xO hb2 KA hX; have hh2 : ∀ b, F1.ownBlock = some b → b ∉ f2.ownBlock.toList := (by intro b hb hx; exact hF1 b hb (by simpa using hx)); replace HF := hid (own_keptX HF.out KA hh2); replace HG := hid xO; clear xO KA hX; simp only [Act.put, List.setIfInBounds_toArray, List.set_cons_zero, List.set_cons_succ])
    | ((with_reducible apply W_loadAll (dst := 43)); rfl; exact M.r2; exact Salg.underlying22; rfl; (rw [size22]; simp [lk]); simp only [Act.put, List.setIfInBounds_toArray, List.set_cons_zero, List.set_cons_succ]))
  have HFR := hid (RowV.own HF.out)
  have HGR := hid (RowV.own HG.out)
  clear HF HG
  refine (HP.out _).mono ?_
  rintro e w5 ⟨p1, rfl, xHP1, K⟩
  have HP1 := hid xHP1
  replace HFR := hid (HFR.out.kept K)
  replace HGR := hid (HGR.out.kept K)
  replace M := M.call K
  clear K xHP1
  go_wp2_with ((with_reducible apply W_buildN (d := 45) (vs := #[n8 84, n8 95, n8 82]) (e := 5) M); kernel_rfl; clear M; intro bl wl hbl hbl2 KB M; replace HFR := hid (HFR.out.kept KB); replace HGR := hid (HGR.out.kept KB); replace HP1 := hid (HP1.out.kept KB); clear KB; simp only [Act.put, List.setIfInBounds_toArray, List.set_cons_zero, List.set_cons_succ])
  have HL3 := hid (RowV.own (own_lit (base := 0) M.r0 rfl (by decide) (Nat.zero_le _)))
  replace M := M.tail
  refine (HR.out _).mono ?_
  rintro e w6 ⟨p2, rfl, xHP2, K⟩
  have HP2 := hid xHP2
  replace HFR := hid (HFR.out.kept K)
  replace HGR := hid (HGR.out.kept K)
  replace HP1 := hid (HP1.out.kept K)
  replace HL3 := hid (HL3.out.kept K)
  replace M := M.call K
  clear K xHP2
  go_wp2_with fail
  refine (join_four F1 ((127 :: x ++ 127 :: k ++ [85]).map n8 ++ [95, 95, 95, 95, 96, 2, 97, 195, 80, 244].map n8) p1 ((127 :: k).map n8) _ _ p2 _ _ HFR.out (by simp) (by simp [lx, lk]) (by rw [← List.map_append]; exact n8_one _) HP1.out (by simp) (by simp [lk]) (n8_one _) HL3.out (by simp) (by simp) (n8_one [84, 95, 82]) HP2.out (by simp) (by simp) (n8_one _)).mono ?_
  rintro e w7 ⟨jv, rfl, xHJ, K⟩
  have HJ := hid xHJ
  replace HGR := hid (HGR.out.kept K)
  replace M := M.call K
  clear K xHJ
  have HJ2 : Hid (RowV w7 5 jv ((first1 k x).map n8)) := by
    have h := HJ.out
    show RowV _ _ _ _
    simpa [first0, first1, sPr, tPr] using h
  have HG2 : Hid (RowV w7 5 F2 ((sPr k y ++ [95, 95, 253]).map n8)) := by
    have h := HGR.out
    show RowV _ _ _ _
    simpa [sPr] using h
  have hj1 := HJ2.out.one
  have hg1 := HG2.out.one
  obtain ⟨pj, nj, cj, ej⟩ := rowV_slice HJ2.out
  obtain ⟨pg, ng, cg, eg2⟩ := rowV_slice HG2.out
  clear HJ HGR HFR HP1 HL3 HP2
  have MZ := M
  subst ej eg2
  have M := MZ
  clear MZ
  go_wp2_with ((with_reducible apply W_buildN (d := 50) (vs := #[Value.slice pj nj cj, Value.slice pg ng cg]) (e := 40) M); kernel_rfl; clear M; intro bn wn hbn hbn2 KB M; replace HJ2 := hid (HJ2.out.kept KB); replace HG2 := hid (HG2.out.kept KB); clear KB; simp only [Act.put, List.setIfInBounds_toArray, List.set_cons_zero, List.set_cons_succ])
  refine (HST.out bn _ _ _ M.r0 HJ2.out HG2.out).mono ?_
  rintro e w8 ⟨sw, su1, su2, rfl, xO, xN1, xN2, K⟩
  have HOA := hid xO
  have HSU1 := hid xN1
  have HSU2 := hid xN2
  replace M := (M.call K).tail
  clear K xO xN1 xN2 HJ2 HG2
  go_wp2_with fail
  refine (HSP.out sw su1 su2 _ HOA.out HSU1.out HSU2.out).mono ?_
  rintro e w9 ⟨c, va, tv, nv, bv, cu, nv2, bv2, cu2, nv3, bv3, rfl, xc, xa, x1, x2, x3, x4, x5, x6, x7, x8, x9, xs, K⟩
  have HRC := hid xc
  have HAC := hid xa
  have HX := hid (And.intro x1 (And.intro x2 (And.intro x3 (And.intro x4 (And.intro x5 (And.intro x6 (And.intro x7 (And.intro x8 x9))))))))
  have hcw : w.heap.size ≤ c := Nat.le_trans M.kept.size xs
  replace M := M.call K
  clear K xc xa x1 x2 x3 x4 x5 x6 x7 x8 x9 xs HOA HSU1 HSU2
  go_wp2_with fail
  refine (toA1_any _).mono ?_
  rintro e w10 ⟨rfl, K⟩
  replace HRC := hid (K.row HRC.out (by simp))
  replace HAC := hid (HAC.out.kept K)
  replace HX := hid (And.intro (HX.out.1.kept K) (And.intro (HX.out.2.1.kept K) (And.intro (HX.out.2.2.1.kept K) (And.intro (HX.out.2.2.2.1.kept K) (And.intro (HX.out.2.2.2.2.1.kept K) (And.intro (HX.out.2.2.2.2.2.1.kept K) (And.intro (HX.out.2.2.2.2.2.2.1.kept K) (And.intro (HX.out.2.2.2.2.2.2.2.1.kept K) (HX.out.2.2.2.2.2.2.2.2.kept K)))))))))
  replace M := M.call K
  clear K
  go_wp2_with fail
  refine (HAP.out c va tv nv bv cu nv2 bv2 cu2 nv3 bv3 _ HRC.out HAC.out HX.out.1 HX.out.2.1 HX.out.2.2.1 HX.out.2.2.2.1 HX.out.2.2.2.2.1 HX.out.2.2.2.2.2.1 HX.out.2.2.2.2.2.2.1 HX.out.2.2.2.2.2.2.2.1 HX.out.2.2.2.2.2.2.2.2).mono ?_
  rintro e w11 ⟨ou, U, cs, va2, nz, bz, cz, sz, nz2, bz2, cz2, nz3, bb, rfl, y1, y2, y3, y4, y5, y6, K⟩
  have HY1 := hid y1
  have HY2 := hid y2
  have HY3 := hid y3
  have HY4 := hid y4
  have HY5 := hid y5
  have HY6 := hid y6
  have hc7 : c ≠ t7 := row_ty HRC.out M.r0 (by decide)
  have hc6 : c ≠ t6 := row_ty HRC.out M.r1 (by decide)
  have hc5 : c ≠ t5 := row_ty HRC.out M.r2 (by decide)
  replace M := M.callNew K hcw HRC.out y2 (ne3 hc7 hc6 hc5)
  clear K y1 y2 y3 y4 y5 y6 HRC HAC HX
  have HO1 := hid (rcL_one (u := n64 U) rfl HY1.out.one)
  have HNB : Hid (∀ t l, Obj.cells (rcL (n64 0) nilS).toArray 65 (0, 0) ≠ R8 t l) := not_bytes_at (cs := (rcL (n64 0) nilS).toArray) (tc := 65) (i := 4) (p := none) (n := 0) (m := 0) (by kernel_rfl)
  go_wp2_with (first
    | ((with_reducible apply L_allocN (d := 12) M); exact zero65; clear M; intro t12 w12 ht12 ht12N K12 M; replace HY1 := hid (HY1.out.kept K12); replace HY2 := hid (K12.row HY2.out (by simp)); replace HY4 := hid (HY4.out.kept K12); replace HY5 := hid (HY5.out.kept K12); replace HY6 := hid (HY6.out.kept K12); clear K12; simp only [Act.put, List.setIfInBounds_toArray, List.set_cons_zero, List.set_cons_succ])
    | ((with_reducible apply W_storeK (b := t12) (vs := (rcL (n64 U) ou).toArray)); rfl; rfl; exact M.r0; exact size65; rfl; exact HO1.out; intro w13 K hr3; have hc12 : c ∉ [t12] := (row_ne M.r0 HY2.out (by rintro h; cases h)); replace HY1 := hid (HY1.out.keptC K M.r0 HNB.out); replace HY2 := hid (K.row HY2.out hc12); replace HY4 := hid (HY4.out.keptC K M.r0 (by decide)); replace HY5 := hid (HY5.out.keptC K M.r0 HNB.out wtype65); replace HY6 := hid (HY6.out.keptC K M.r0 HNB.out); replace M := Mem.callPut (L1 := []) M (Or.inr ht12) K hr3; clear K hr3; simp only [List.nil_append] at M))
  have HEX := hid (export_any c 119 cs va2 [⟨1, nz, bz, cz, sz, (List.replicate 32 0), (first1 k x), wantS k x⟩, ⟨2, nz2, bz2, cz2, nilS, (List.replicate 32 0), (sPr k y ++ [95, 95, 253]), none⟩, ⟨240, nz3, bb, nilS, nilS, balB, [], none⟩])
  have HXA : Hid (∀ x' ∈ ([⟨1, nz, bz, cz, sz, (List.replicate 32 0), (first1 k x), wantS k x⟩, ⟨2, nz2, bz2, cz2, nilS, (List.replicate 32 0), (sPr k y ++ [95, 95, 253]), none⟩, ⟨240, nz3, bb, nilS, nilS, balB, [], none⟩] : List XA), x'.Ok w13) := by
    intro x' hx'
    simp only [List.mem_cons, List.not_mem_nil, or_false] at hx'
    rcases hx' with rfl | rfl | rfl
    · refine ⟨HY5.out.n1, by rw [be_zero32]; exact HY5.out.b1, rfl, small32, HY5.out.c1, ?_, ?_⟩
      · have hs := HY5.out.s
        unfold slotNew at hs
        simp only [wantS]
        split
        · rename_i hz
          rw [if_pos hz] at hs
          exact hs
        · rename_i hz
          rw [if_neg hz] at hs
          exact hs
      · intro p hp
        simp only [wantS] at hp
        split at hp
        · cases hp
        · cases hp
          exact ⟨lk, HSK.out, lx, HSO.out⟩
    · exact ⟨HY5.out.n2, by rw [be_zero32]; exact HY5.out.b2, rfl, small32, HY5.out.c2, rfl, by intro p hp; cases hp⟩
    · exact ⟨HY5.out.n3, by rw [be_balB]; exact HY6.out, rfl, smallB, NatV.nil _, rfl, by intro p hp; cases hp⟩
  refine S_region (by kernel_rfl) ?_
  replace HY1 := hid (HY1.out.kept (Kept.refl [] _).drew)
  replace HY4 := hid (HY4.out.kept (Kept.refl [] _).drew)
  replace HXA := hid (fun x' hx' => (HXA.out x' hx').kept (Kept.refl [] _).drew)
  have HCR := hid HY2.out
  have hK13 : Kept [] w13 w13.drew := (Kept.refl [] _).drew
  replace HCR := hid (hK13.row HCR.out (by simp))
  refine E_stage 0 9 [0, 1, 2, 3, 4, 5, 6, 7, 8] (by kernel_rfl) M.drew ?_
  clear M hK13
  simp only [List.filterMap_cons, List.filterMap_nil, List.getElem?_cons_zero, List.getElem?_cons_succ]
  ((with_reducible apply E_run); rfl; rfl; (intro w M; go_simp; (try go_ints); (try simp only [↓IntWalk.iteOmega]); (try with_reducible rfl)); simp only [Act.put, List.setIfInBounds_toArray, List.set_cons_zero, List.set_cons_succ])
  ((with_reducible apply E_run); rfl; rfl; (intro w M; exact run_loadAll M.r3 rfl Salg.underlying22 rfl (by rw [size22]; simp [lk])); simp only [Act.put, List.setIfInBounds_toArray, List.set_cons_zero, List.set_cons_succ])
  ((with_reducible apply E_run); rfl; rfl; (intro w M; exact run_loadAll M.r2 rfl Salg.underlying22 rfl (by rw [size22]; simp [lx])); simp only [Act.put, List.setIfInBounds_toArray, List.set_cons_zero, List.set_cons_succ])
  ((with_reducible apply E_run); rfl; rfl; (intro w M; exact run_loadAll M.r1 rfl Salg.underlying22 rfl (by rw [size22]; simp [ly])); simp only [Act.put, List.setIfInBounds_toArray, List.set_cons_zero, List.set_cons_succ])
  ((with_reducible apply E_run); rfl; rfl; (intro w M; exact run_loadAll M.r0 rfl Salg.underlying65 rfl size65); simp only [Act.put, List.setIfInBounds_toArray, List.set_cons_zero, List.set_cons_succ])
  ((with_reducible apply E_run); rfl; rfl; (intro w M; go_simp; (try go_ints); (try simp only [↓IntWalk.iteOmega]); (try with_reducible rfl)); simp only [Act.put, List.setIfInBounds_toArray, List.set_cons_zero, List.set_cons_succ])
  refine E_call rfl Salg.func30 (by kernel_rfl) (by kernel_rfl) (args := [.pointer (some ⟨c, 0, none⟩)]) rfl ?_
  intro w14 K M
  replace HY1 := hid (HY1.out.kept K)
  replace HY4 := hid (HY4.out.kept K)
  replace HXA := hid (fun x' hx' => (HXA.out x' hx').kept K)
  replace HCR := hid (K.row HCR.out (by simp))
  clear K
  refine (HEX.out w14 HCR.out HY3.out HY4.out HXA.out (by simp)).mono ?_
  rintro e w15 ⟨ev, os, rfl, z1, z2, z3, K⟩
  replace HY1 := hid (HY1.out.kept K)
  replace M := M.call K
  clear K
  obtain ⟨o0, o1, o2, rfl⟩ : ∃ o0 o1 o2, os = [o0, o1, o2] := by
    match os, z1 with
    | [o0, o1, o2], _ => exact ⟨o0, o1, o2, rfl⟩
  have q0 := z3 0 _ o0 rfl rfl
  have q1 := z3 1 _ o1 rfl rfl
  obtain ⟨g, ecap, cur, rfl, g1, g2, g3, g4⟩ := own_three z2 (oaS_len rfl) (oaS_len rfl)
  have hs2 : o1.2 = nilS := q1.s
  rw [hs2] at g4
  have HG1 := hid g1
  have HG3 := hid g3
  have HG4 := hid g4
  have HQ0 := hid q0
  have HQ1 := hid q1
  clear z1 z2 z3 q0 q1 g1 g3 g4 hs2
  refine ⟨_, rfl, trivial, M, ?_⟩
  simp only [Act.put, List.setIfInBounds_toArray, List.set_cons_zero, List.set_cons_succ]
  refine E_call rfl Salg.func36 (by kernel_rfl) (by kernel_rfl) (args := [.int .u8 ((kind : Int) % 4), A8 k, A8 x, A8 y, .agg (rcL (n64 U) ou).toArray, .slice (some ⟨g, 0, none⟩) 3 ecap]) rfl ?_
  intro w16 K M
  replace HY1 := hid (HY1.out.kept K)
  replace HG1 := hid (K.row HG1.out (by simp))
  replace HQ0 := hid (HQ0.out.kept K)
  clear K
  rw [HKR.out]
  refine (HWO.out U g ecap ou o0.1 o0.2 o1.1 cur w16 HY1.out HG1.out g2 HG3.out HG4.out HQ0.out.s HQ0.out.c.one HQ1.out.c.one).mono ?_
  rintro e w17 ⟨rfl, K⟩
  replace M := M.call K
  clear K
  refine ⟨_, rfl, trivial, M, ?_⟩
  simp only [Act.put, List.setIfInBounds_toArray, List.set_cons_zero, List.set_cons_succ]
  ((with_reducible apply E_run); rfl; rfl; (intro w M; go_simp; (try go_ints); (try simp only [↓IntWalk.iteOmega]); (try with_reducible rfl)); simp only [Act.put, List.setIfInBounds_toArray, List.set_cons_zero, List.set_cons_succ])
  refine E_nil ?_
  intro w18 K M
  clear K
  refine S_done ?_
  go_wp2_with fail
  go_ret
  exact ⟨rfl, M.kept⟩

set_option maxHeartbeats 4000000 in
set_option maxRecDepth 100000 in
theorem storeLoad_3 (kind : Nat) (k x y : List Nat) (w : World) (hk : kind % 4 = 3) (hk2 : kind < 256) (lk : k.length = 32) (lx : x.length = 32) (ly : y.length = 32) (sk : Small k) (sx : Small x) (sy : Small y) :
    Calls Salg.prog 7 #[.int .u8 kind, A8 k, A8 x, A8 y] w fun e w' => e = .returned (.bool true) ∧ Kept [] w w' := by
  have M := Mem.start w []
  have dk1 : decide ((kind : Int) % 4 = 1) = false := by simp; omega
  have ek1 : decide (kind % 4 = 1) = false := by simp; omega
  have bk1 : ((kind : Int) % 4 == 1) = false := by rw [beq_eq_false_iff_ne]; omega
  have dk2 : decide ((kind : Int) % 4 = 2) = false := by simp; omega
  have ek2 : decide (kind % 4 = 2) = false := by simp; omega
  have bk2 : ((kind : Int) % 4 == 2) = false := by rw [beq_eq_false_iff_ne]; omega
  have dk3 : decide ((kind : Int) % 4 = 3) = true := by simp; omega
  have ek3 : decide (kind % 4 = 3) = true := by simp; omega
  have bk3 : ((kind : Int) % 4 == 3) = true := by rw [beq_iff_eq]; omega
  have dg : decide ((0 : Int) < (kind : Int) % 4) = true := by simp; omega
  have eg : decide (0 < kind % 4) = true := by simp; omega
  have HS1 := hid (fun w' => storeProgram_any k x w' lk lx)
  have HS2 := hid (fun w' => storeProgram_any k y w' lk ly)
  have HP := hid (fun w' => push32_any k w' lk)
  have HR := hid (fun w' => ret_any 32 w')
  have hl1 : (first1 k x).length ≤ 256 := by simp [first0, first1, sPr, tPr, lk, lx]
  have hp1 : 0 < (first1 k x).length := by simp [first0, first1, sPr, tPr, lk, lx]
  have hl2 : (sPr k y ++ [254]).length ≤ 256 := by simp [sPr, lk, ly]
  have hp2 : 0 < (sPr k y ++ [254]).length := by simp [sPr, lk, ly]
  have hsm1 : Small (first1 k x) := small_app (small_app (sPr_small sk sx) (small_lit rfl)) (tPr_small sk)
  have hsm2 : Small (sPr k y ++ [254]) := small_app (sPr_small sk sy) (small_lit rfl)
  have HST := hid (fun b cv1 cv2 w' h1 h2 h3 => stage_two b cv1 cv2 (first1 k x) (sPr k y ++ [254]) w' h1 h2 hp1 hl1 hsm1 h3 hp2 hl2 hsm2)
  have HSP := hid (fun v u1 u2 w' h1 h2 h3 => specOf_three v u1 u2 (first1 k x) (sPr k y ++ [254]) w' h1 h2 h3)
  have HAP := hid (fun c va tv nv bv cu nv2 bv2 cu2 nv3 bv3 w' => apply_3 c k x y va tv nv bv cu nv2 bv2 cu2 nv3 bv3 w' lk lx ly sx sy)
  have HWO := hid (fun U g cap ou cv1 s1 cv2 cur w' => holds_any 3 U g cap k x y x ou cv1 s1 cv2 cur w' (by decide) lk lx ly rfl sx)
  have HKR : Hid (((kind : Int) % 4) = 3) := by show _ = _; omega
  have HSK := hid sk
  have HSO := hid sx
  clear hl1 hp1 hl2 hp2 hsm1 hsm2 sk sx sy
  go_enter Salg.func7, Salg.ntmps7
  go_wp2_with (first
    | ((with_reducible apply L_box (d := 5) M); rfl; clear M; intro t5 w1 ht5 M; simp only [Act.put, List.setIfInBounds_toArray, List.set_cons_zero, List.set_cons_succ])
    | ((with_reducible apply L_box (d := 6) M); rfl; clear M; intro t6 w1 ht6 M; simp only [Act.put, List.setIfInBounds_toArray, List.set_cons_zero, List.set_cons_succ])
    | ((with_reducible apply L_box (d := 7) M); rfl; clear M; intro t7 w1 ht7 M; simp only [Act.put, List.setIfInBounds_toArray, List.set_cons_zero, List.set_cons_succ])
    | ((with_reducible apply W_loadAll); rfl; exact M.r2; exact Salg.underlying22; rfl; (rw [size22]; simp [lk]); simp only [Act.put, List.setIfInBounds_toArray, List.set_cons_zero, List.set_cons_succ])
    | ((with_reducible apply W_loadAll); rfl; exact M.r1; exact Salg.underlying22; rfl; (rw [size22]; simp [lx]); simp only [Act.put, List.setIfInBounds_toArray, List.set_cons_zero, List.set_cons_succ]))
  have hw2 := M.kept.size
  refine (HS1.out _).mono ?_
  rintro e w3 ⟨f1, rfl, xHF, K⟩
  have HF := hid xHF
  replace M := M.call K
  clear K xHF
  replace HF := hid (own_mono HF.out hw2)
  have hw3 := M.kept.size
  have hfb : ∀ b, f1.ownBlock = some b → b < w3.heap.size := fun b h => (own_block HF.out h).2
  have hf5 := own_type HF.out M.r2 (by decide)
  have hf6 := own_type HF.out M.r1 (by decide)
  have hf7 := own_type HF.out M.r0 (by decide)
  go_wp2_with (first
    | ((with_reducible apply W_loadAll (dst := 18)); rfl; exact M.r2; exact Salg.underlying22; rfl; (rw [size22]; simp [lk]); simp only [Act.put, List.setIfInBounds_toArray, List.set_cons_zero, List.set_cons_succ])
    | ((with_reducible apply W_loadAll (dst := 19)); rfl; exact M.r0; exact Salg.underlying22; rfl; (rw [size22]; simp [ly]); simp only [Act.put, List.setIfInBounds_toArray, List.set_cons_zero, List.set_cons_succ]))
  refine (HS2.out _).mono ?_
  rintro e w4 ⟨f2, rfl, xHG, K⟩
  have HG := hid xHG
  replace HF := hid (own_kept HF.out K)
  have hw34x := K.size
  replace M := M.call K
  clear K xHG
  have hgb : ∀ b, f2.ownBlock = some b → w3.heap.size ≤ b ∧ b < w4.heap.size := fun b h => own_block HG.out h
  have hg5 := own_type HG.out M.r2 (by decide)
  have hg6 := own_type HG.out M.r1 (by decide)
  have hg7 := own_type HG.out M.r0 (by decide)
  have hw34 : w3.heap.size ≤ w4.heap.size := hw34x
  go_wp2_with (first
    | ((with_reducible apply W_buildN (d := 24) (vs := #[n8 95, n8 95, n8 95, n8 95, n8 96, n8 2, n8 97, n8 195, n8 80, n8 244]) (e := 5) M); kernel_rfl; clear M; intro bn1 wb1 hbn1 hbn12 KB M; replace HF := hid (own_kept HF.out KB); replace HG := hid (own_kept HG.out KB); have hsz1 := KB.size; clear KB; simp only [Act.put, List.setIfInBounds_toArray, List.set_cons_zero, List.set_cons_succ])
    | ((with_reducible apply W_appendX (d := 25) (base := w.heap.size) (n := 67) (m := 10) (s := 1) (bn := bn1) (so := 0) (news := ([95, 95, 95, 95, 96, 2, 97, 195, 80, 244].map n8)) (cs := #[n8 95, n8 95, n8 95, n8 95, n8 96, n8 2, n8 97, n8 195, n8 80, n8 244]) M.tail); exact info5; exact Salg.underlying40; rfl; decide; decide; rfl; rfl; exact HF.out; decide; exact M.r0; rfl; exact cells_news _; exact n8_one _; exact Nat.le_refl _; exact M.kept.size; exact apart3 hf7 hf6 hf5; clear M; intro F1 wa1 M xO hb1 KA hX; have hh : ∀ b, f2.ownBlock = some b → b ∉ f1.ownBlock.toList := (by intro b hb hx; have e1 := hfb b (by simpa using hx); have e2 := (hgb b hb).1; omega); replace HG := hid (own_keptX HG.out KA hh); have hF1 : ∀ b, F1.ownBlock = some b → f2.ownBlock ≠ some b := (fun b hb hg => by have e2 := hgb b hg; rcases hX b hb with h | h; (have := hfb b h; omega); omega); replace HF := hid xO; have hw3b : w3.heap.size ≤ wa1.heap.size := (Nat.le_trans hw34 (Nat.le_trans hsz1 KA.size)); clear xO KA hX; simp only [Act.put, List.setIfInBounds_toArray, List.set_cons_zero, List.set_cons_succ])
    | ((with_reducible apply W_buildN (d := 40) (vs := #[n8 254]) (e := 5) M); kernel_rfl; clear M; intro bn2 wb2 hbn2 hbn22 KB M; replace HF := hid (own_kept HF.out KB); replace HG := hid (own_kept HG.out KB); have hszb2 := KB.size; clear KB; simp only [Act.put, List.setIfInBounds_toArray, List.set_cons_zero, List.set_cons_succ])
    | ((with_reducible apply W_appendX (d := 41) (base := w3.heap.size) (n := 67) (m := 1) (s := 1) (bn := bn2) (so := 0) (news := ([254].map n8)) (cs := #[n8 254]) M.tail); exact info5; exact Salg.underlying40; rfl; decide; decide; rfl; rfl; exact HG.out; decide; exact M.r0; rfl; exact cells_news _; exact n8_one _; exact hw3; exact (Nat.le_trans hw3b hszb2); exact apart3 hg7 hg6 hg5; clear M; intro F2 wa2 M xO hb2 KA hX; have hh2 : ∀ b, F1.ownBlock = some b → b ∉ f2.ownBlock.toList := (by intro b hb hx; exact hF1 b hb (by simpa using hx)); replace HF := hid (own_keptX HF.out KA hh2); replace HG := hid xO; clear xO KA hX; simp only [Act.put, List.setIfInBounds_toArray, List.set_cons_zero, List.set_cons_succ])
    | ((with_reducible apply W_loadAll (dst := 43)); rfl; exact M.r2; exact Salg.underlying22; rfl; (rw [size22]; simp [lk]); simp only [Act.put, List.setIfInBounds_toArray, List.set_cons_zero, List.set_cons_succ]))
  have HFR := hid (RowV.own HF.out)
  have HGR := hid (RowV.own HG.out)
  clear HF HG
  refine (HP.out _).mono ?_
  rintro e w5 ⟨p1, rfl, xHP1, K⟩
  have HP1 := hid xHP1
  replace HFR := hid (HFR.out.kept K)
  replace HGR := hid (HGR.out.kept K)
  replace M := M.call K
  clear K xHP1
  go_wp2_with ((with_reducible apply W_buildN (d := 45) (vs := #[n8 84, n8 95, n8 82]) (e := 5) M); kernel_rfl; clear M; intro bl wl hbl hbl2 KB M; replace HFR := hid (HFR.out.kept KB); replace HGR := hid (HGR.out.kept KB); replace HP1 := hid (HP1.out.kept KB); clear KB; simp only [Act.put, List.setIfInBounds_toArray, List.set_cons_zero, List.set_cons_succ])
  have HL3 := hid (RowV.own (own_lit (base := 0) M.r0 rfl (by decide) (Nat.zero_le _)))
  replace M := M.tail
  refine (HR.out _).mono ?_
  rintro e w6 ⟨p2, rfl, xHP2, K⟩
  have HP2 := hid xHP2
  replace HFR := hid (HFR.out.kept K)
  replace HGR := hid (HGR.out.kept K)
  replace HP1 := hid (HP1.out.kept K)
  replace HL3 := hid (HL3.out.kept K)
  replace M := M.call K
  clear K xHP2
  go_wp2_with fail
  refine (join_four F1 ((127 :: x ++ 127 :: k ++ [85]).map n8 ++ [95, 95, 95, 95, 96, 2, 97, 195, 80, 244].map n8) p1 ((127 :: k).map n8) _ _ p2 _ _ HFR.out (by simp) (by simp [lx, lk]) (by rw [← List.map_append]; exact n8_one _) HP1.out (by simp) (by simp [lk]) (n8_one _) HL3.out (by simp) (by simp) (n8_one [84, 95, 82]) HP2.out (by simp) (by simp) (n8_one _)).mono ?_
  rintro e w7 ⟨jv, rfl, xHJ, K⟩
  have HJ := hid xHJ
  replace HGR := hid (HGR.out.kept K)
  replace M := M.call K
  clear K xHJ
  have HJ2 : Hid (RowV w7 5 jv ((first1 k x).map n8)) := by
    have h := HJ.out
    show RowV _ _ _ _
    simpa [first0, first1, sPr, tPr] using h
  have HG2 : Hid (RowV w7 5 F2 ((sPr k y ++ [254]).map n8)) := by
    have h := HGR.out
    show RowV _ _ _ _
    simpa [sPr] using h
  have hj1 := HJ2.out.one
  have hg1 := HG2.out.one
  obtain ⟨pj, nj, cj, ej⟩ := rowV_slice HJ2.out
  obtain ⟨pg, ng, cg, eg2⟩ := rowV_slice HG2.out
  clear HJ HGR HFR HP1 HL3 HP2
  have MZ := M
  subst ej eg2
  have M := MZ
  clear MZ
  go_wp2_with ((with_reducible apply W_buildN (d := 50) (vs := #[Value.slice pj nj cj, Value.slice pg ng cg]) (e := 40) M); kernel_rfl; clear M; intro bn wn hbn hbn2 KB M; replace HJ2 := hid (HJ2.out.kept KB); replace HG2 := hid (HG2.out.kept KB); clear KB; simp only [Act.put, List.setIfInBounds_toArray, List.set_cons_zero, List.set_cons_succ])
  refine (HST.out bn _ _ _ M.r0 HJ2.out HG2.out).mono ?_
  rintro e w8 ⟨sw, su1, su2, rfl, xO, xN1, xN2, K⟩
  have HOA := hid xO
  have HSU1 := hid xN1
  have HSU2 := hid xN2
  replace M := (M.call K).tail
  clear K xO xN1 xN2 HJ2 HG2
  go_wp2_with fail
  refine (HSP.out sw su1 su2 _ HOA.out HSU1.out HSU2.out).mono ?_
  rintro e w9 ⟨c, va, tv, nv, bv, cu, nv2, bv2, cu2, nv3, bv3, rfl, xc, xa, x1, x2, x3, x4, x5, x6, x7, x8, x9, xs, K⟩
  have HRC := hid xc
  have HAC := hid xa
  have HX := hid (And.intro x1 (And.intro x2 (And.intro x3 (And.intro x4 (And.intro x5 (And.intro x6 (And.intro x7 (And.intro x8 x9))))))))
  have hcw : w.heap.size ≤ c := Nat.le_trans M.kept.size xs
  replace M := M.call K
  clear K xc xa x1 x2 x3 x4 x5 x6 x7 x8 x9 xs HOA HSU1 HSU2
  go_wp2_with fail
  refine (toA1_any _).mono ?_
  rintro e w10 ⟨rfl, K⟩
  replace HRC := hid (K.row HRC.out (by simp))
  replace HAC := hid (HAC.out.kept K)
  replace HX := hid (And.intro (HX.out.1.kept K) (And.intro (HX.out.2.1.kept K) (And.intro (HX.out.2.2.1.kept K) (And.intro (HX.out.2.2.2.1.kept K) (And.intro (HX.out.2.2.2.2.1.kept K) (And.intro (HX.out.2.2.2.2.2.1.kept K) (And.intro (HX.out.2.2.2.2.2.2.1.kept K) (And.intro (HX.out.2.2.2.2.2.2.2.1.kept K) (HX.out.2.2.2.2.2.2.2.2.kept K)))))))))
  replace M := M.call K
  clear K
  go_wp2_with fail
  refine (HAP.out c va tv nv bv cu nv2 bv2 cu2 nv3 bv3 _ HRC.out HAC.out HX.out.1 HX.out.2.1 HX.out.2.2.1 HX.out.2.2.2.1 HX.out.2.2.2.2.1 HX.out.2.2.2.2.2.1 HX.out.2.2.2.2.2.2.1 HX.out.2.2.2.2.2.2.2.1 HX.out.2.2.2.2.2.2.2.2).mono ?_
  rintro e w11 ⟨ou, U, cs, va2, nz, bz, cz, sz, nz2, bz2, cz2, nz3, bb, rfl, y1, y2, y3, y4, y5, y6, K⟩
  have HY1 := hid y1
  have HY2 := hid y2
  have HY3 := hid y3
  have HY4 := hid y4
  have HY5 := hid y5
  have HY6 := hid y6
  have hc7 : c ≠ t7 := row_ty HRC.out M.r0 (by decide)
  have hc6 : c ≠ t6 := row_ty HRC.out M.r1 (by decide)
  have hc5 : c ≠ t5 := row_ty HRC.out M.r2 (by decide)
  replace M := M.callNew K hcw HRC.out y2 (ne3 hc7 hc6 hc5)
  clear K y1 y2 y3 y4 y5 y6 HRC HAC HX
  have HO1 := hid (rcL_one (u := n64 U) rfl HY1.out.one)
  have HNB : Hid (∀ t l, Obj.cells (rcL (n64 0) nilS).toArray 65 (0, 0) ≠ R8 t l) := not_bytes_at (cs := (rcL (n64 0) nilS).toArray) (tc := 65) (i := 4) (p := none) (n := 0) (m := 0) (by kernel_rfl)
  go_wp2_with (first
    | ((with_reducible apply L_allocN (d := 12) M); exact zero65; clear M; intro t12 w12 ht12 ht12N K12 M; replace HY1 := hid (HY1.out.kept K12); replace HY2 := hid (K12.row HY2.out (by simp)); replace HY4 := hid (HY4.out.kept K12); replace HY5 := hid (HY5.out.kept K12); replace HY6 := hid (HY6.out.kept K12); clear K12; simp only [Act.put, List.setIfInBounds_toArray, List.set_cons_zero, List.set_cons_succ])
    | ((with_reducible apply W_storeK (b := t12) (vs := (rcL (n64 U) ou).toArray)); rfl; rfl; exact M.r0; exact size65; rfl; exact HO1.out; intro w13 K hr3; have hc12 : c ∉ [t12] := (row_ne M.r0 HY2.out (by rintro h; cases h)); replace HY1 := hid (HY1.out.keptC K M.r0 HNB.out); replace HY2 := hid (K.row HY2.out hc12); replace HY4 := hid (HY4.out.keptC K M.r0 (by decide)); replace HY5 := hid (HY5.out.keptC K M.r0 HNB.out wtype65); replace HY6 := hid (HY6.out.keptC K M.r0 HNB.out); replace M := Mem.callPut (L1 := []) M (Or.inr ht12) K hr3; clear K hr3; simp only [List.nil_append] at M))
  have HEX := hid (export_any c 119 cs va2 [⟨1, nz, bz, cz, sz, (List.replicate 32 0), (first1 k x), wantS k x⟩, ⟨2, nz2, bz2, cz2, nilS, (List.replicate 32 0), (sPr k y ++ [254]), none⟩, ⟨240, nz3, bb, nilS, nilS, balB, [], none⟩])
  have HXA : Hid (∀ x' ∈ ([⟨1, nz, bz, cz, sz, (List.replicate 32 0), (first1 k x), wantS k x⟩, ⟨2, nz2, bz2, cz2, nilS, (List.replicate 32 0), (sPr k y ++ [254]), none⟩, ⟨240, nz3, bb, nilS, nilS, balB, [], none⟩] : List XA), x'.Ok w13) := by
    intro x' hx'
    simp only [List.mem_cons, List.not_mem_nil, or_false] at hx'
    rcases hx' with rfl | rfl | rfl
    · refine ⟨HY5.out.n1, by rw [be_zero32]; exact HY5.out.b1, rfl, small32, HY5.out.c1, ?_, ?_⟩
      · have hs := HY5.out.s
        unfold slotNew at hs
        simp only [wantS]
        split
        · rename_i hz
          rw [if_pos hz] at hs
          exact hs
        · rename_i hz
          rw [if_neg hz] at hs
          exact hs
      · intro p hp
        simp only [wantS] at hp
        split at hp
        · cases hp
        · cases hp
          exact ⟨lk, HSK.out, lx, HSO.out⟩
    · exact ⟨HY5.out.n2, by rw [be_zero32]; exact HY5.out.b2, rfl, small32, HY5.out.c2, rfl, by intro p hp; cases hp⟩
    · exact ⟨HY5.out.n3, by rw [be_balB]; exact HY6.out, rfl, smallB, NatV.nil _, rfl, by intro p hp; cases hp⟩
  refine S_region (by kernel_rfl) ?_
  replace HY1 := hid (HY1.out.kept (Kept.refl [] _).drew)
  replace HY4 := hid (HY4.out.kept (Kept.refl [] _).drew)
  replace HXA := hid (fun x' hx' => (HXA.out x' hx').kept (Kept.refl [] _).drew)
  have HCR := hid HY2.out
  have hK13 : Kept [] w13 w13.drew := (Kept.refl [] _).drew
  replace HCR := hid (hK13.row HCR.out (by simp))
  refine E_stage 0 9 [0, 1, 2, 3, 4, 5, 6, 7, 8] (by kernel_rfl) M.drew ?_
  clear M hK13
  simp only [List.filterMap_cons, List.filterMap_nil, List.getElem?_cons_zero, List.getElem?_cons_succ]
  ((with_reducible apply E_run); rfl; rfl; (intro w M; go_simp; (try go_ints); (try simp only [↓IntWalk.iteOmega]); (try with_reducible rfl)); simp only [Act.put, List.setIfInBounds_toArray, List.set_cons_zero, List.set_cons_succ])
  ((with_reducible apply E_run); rfl; rfl; (intro w M; exact run_loadAll M.r3 rfl Salg.underlying22 rfl (by rw [size22]; simp [lk])); simp only [Act.put, List.setIfInBounds_toArray, List.set_cons_zero, List.set_cons_succ])
  ((with_reducible apply E_run); rfl; rfl; (intro w M; exact run_loadAll M.r2 rfl Salg.underlying22 rfl (by rw [size22]; simp [lx])); simp only [Act.put, List.setIfInBounds_toArray, List.set_cons_zero, List.set_cons_succ])
  ((with_reducible apply E_run); rfl; rfl; (intro w M; exact run_loadAll M.r1 rfl Salg.underlying22 rfl (by rw [size22]; simp [ly])); simp only [Act.put, List.setIfInBounds_toArray, List.set_cons_zero, List.set_cons_succ])
  ((with_reducible apply E_run); rfl; rfl; (intro w M; exact run_loadAll M.r0 rfl Salg.underlying65 rfl size65); simp only [Act.put, List.setIfInBounds_toArray, List.set_cons_zero, List.set_cons_succ])
  ((with_reducible apply E_run); rfl; rfl; (intro w M; go_simp; (try go_ints); (try simp only [↓IntWalk.iteOmega]); (try with_reducible rfl)); simp only [Act.put, List.setIfInBounds_toArray, List.set_cons_zero, List.set_cons_succ])
  refine E_call rfl Salg.func30 (by kernel_rfl) (by kernel_rfl) (args := [.pointer (some ⟨c, 0, none⟩)]) rfl ?_
  intro w14 K M
  replace HY1 := hid (HY1.out.kept K)
  replace HY4 := hid (HY4.out.kept K)
  replace HXA := hid (fun x' hx' => (HXA.out x' hx').kept K)
  replace HCR := hid (K.row HCR.out (by simp))
  clear K
  refine (HEX.out w14 HCR.out HY3.out HY4.out HXA.out (by simp)).mono ?_
  rintro e w15 ⟨ev, os, rfl, z1, z2, z3, K⟩
  replace HY1 := hid (HY1.out.kept K)
  replace M := M.call K
  clear K
  obtain ⟨o0, o1, o2, rfl⟩ : ∃ o0 o1 o2, os = [o0, o1, o2] := by
    match os, z1 with
    | [o0, o1, o2], _ => exact ⟨o0, o1, o2, rfl⟩
  have q0 := z3 0 _ o0 rfl rfl
  have q1 := z3 1 _ o1 rfl rfl
  obtain ⟨g, ecap, cur, rfl, g1, g2, g3, g4⟩ := own_three z2 (oaS_len rfl) (oaS_len rfl)
  have hs2 : o1.2 = nilS := q1.s
  rw [hs2] at g4
  have HG1 := hid g1
  have HG3 := hid g3
  have HG4 := hid g4
  have HQ0 := hid q0
  have HQ1 := hid q1
  clear z1 z2 z3 q0 q1 g1 g3 g4 hs2
  refine ⟨_, rfl, trivial, M, ?_⟩
  simp only [Act.put, List.setIfInBounds_toArray, List.set_cons_zero, List.set_cons_succ]
  refine E_call rfl Salg.func36 (by kernel_rfl) (by kernel_rfl) (args := [.int .u8 ((kind : Int) % 4), A8 k, A8 x, A8 y, .agg (rcL (n64 U) ou).toArray, .slice (some ⟨g, 0, none⟩) 3 ecap]) rfl ?_
  intro w16 K M
  replace HY1 := hid (HY1.out.kept K)
  replace HG1 := hid (K.row HG1.out (by simp))
  replace HQ0 := hid (HQ0.out.kept K)
  clear K
  rw [HKR.out]
  refine (HWO.out U g ecap ou o0.1 o0.2 o1.1 cur w16 HY1.out HG1.out g2 HG3.out HG4.out HQ0.out.s HQ0.out.c.one HQ1.out.c.one).mono ?_
  rintro e w17 ⟨rfl, K⟩
  replace M := M.call K
  clear K
  refine ⟨_, rfl, trivial, M, ?_⟩
  simp only [Act.put, List.setIfInBounds_toArray, List.set_cons_zero, List.set_cons_succ]
  ((with_reducible apply E_run); rfl; rfl; (intro w M; go_simp; (try go_ints); (try simp only [↓IntWalk.iteOmega]); (try with_reducible rfl)); simp only [Act.put, List.setIfInBounds_toArray, List.set_cons_zero, List.set_cons_succ])
  refine E_nil ?_
  intro w18 K M
  clear K
  refine S_done ?_
  go_wp2_with fail
  go_ret
  exact ⟨rfl, M.kept⟩
theorem storeLoad_any (kind : Nat) (k x y : List Nat) (w : World) (hk2 : kind < 256) (lk : k.length = 32) (sk : Small k) (lx : x.length = 32) (sx : Small x) (ly : y.length = 32) (sy : Small y) :
    Calls Salg.prog 7 #[.int .u8 kind, A8 k, A8 x, A8 y] w fun e w' => e = .returned (.bool true) ∧ Kept [] w w' := by
  rcases (by omega : kind % 4 = 0 ∨ kind % 4 = 1 ∨ kind % 4 = 2 ∨ kind % 4 = 3) with h | h | h | h
  · exact storeLoad_0 kind k x y w h hk2 lk lx ly sk sx sy
  · exact storeLoad_1 kind k x y w h hk2 lk lx ly sk sx sy
  · exact storeLoad_2 kind k x y w h hk2 lk lx ly sk sx sy
  · exact storeLoad_3 kind k x y w h hk2 lk lx ly sk sx sy
end Go.Proofs.YgcsalGreat

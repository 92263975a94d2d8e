/-
  The walk of (*yp.Chain).Finish where the transaction has ended well.
-/
import Derived.Test.YgcsalGreatSl34
import Derived.Test.YgcsalGreatSl35
set_option linter.unusedSimpArgs false
set_option linter.unusedVariables false
namespace Go.Own
theorem put3_miss (nv bv cu sl nv2 bv2 cu2 nv3 bv3 v : Value) : acPut ((acFind (l3 nv bv cu sl nv2 bv2 cu2 nv3 bv3) (ad 192)).put 1 v) true (l3 nv bv cu sl nv2 bv2 cu2 nv3 bv3) = l3 nv bv cu sl nv2 bv2 cu2 nv3 bv3 := by kernel_rfl
theorem find3_192 (nv bv cu sl nv2 bv2 cu2 nv3 bv3 : Value) : acFind (l3 nv bv cu sl nv2 bv2 cu2 nv3 bv3) (ad 192) = ⟨ad 192, [nilS, nilS, nilS, nilS]⟩ := by kernel_rfl
/-- What the accounts' cells hold, but the third balance. -/
structure PartsW (w : World) (nv bv cu sl nv2 bv2 cu2 nv3 : Value) (so : Option (Nat × Nat)) (ds1 ds2 : List Nat) : Prop where
  s : SlotV w sl so
  n1 : NumV w nv 1
  b1 : NumV w bv 0
  c1 : NatV w cu ds1
  n2 : NumV w nv2 1
  b2 : NumV w bv2 0
  c2 : NatV w cu2 ds2
  n3 : NumV w nv3 1
theorem PartsW.kept {w w' : World} {nv bv cu sl nv2 bv2 cu2 nv3 : Value} {so : Option (Nat × Nat)} {ds1 ds2 : List Nat} (h : PartsW w nv bv cu sl nv2 bv2 cu2 nv3 so ds1 ds2) (k : Kept [] w w') : PartsW w' nv bv cu sl nv2 bv2 cu2 nv3 so ds1 ds2 := ⟨h.s.kept k, h.n1.kept k, h.b1.kept k, h.c1.kept k, h.n2.kept k, h.b2.kept k, h.c2.kept k, h.n3.kept k⟩
theorem PartsW.keptC {w w' : World} {nv bv cu sl nv2 bv2 cu2 nv3 : Value} {so : Option (Nat × Nat)} {ds1 ds2 : List Nat} {c tc : Nat} {cs : Array Value} (h : PartsW w nv bv cu sl nv2 bv2 cu2 nv3 so ds1 ds2) (k : Kept [c] w w') (hr : w.heap[c]? = some (.cells cs tc (0, 0))) (ho : ∀ t l, Obj.cells cs tc (0, 0) ≠ R8 t l) (ht : WType tc) : PartsW w' nv bv cu sl nv2 bv2 cu2 nv3 so ds1 ds2 := ⟨SlotV.keptC k hr ho ht.2.2.1 h.s, h.n1.keptC k hr ho, h.b1.keptC k hr ho, h.c1.keptC k hr ho, h.n2.keptC k hr ho, h.b2.keptC k hr ho, h.c2.keptC k hr ho, h.n3.keptC k hr ho⟩
theorem W_buildV {P : Program} {ops : Array Oper} {Q : Exit → Act → World → Prop} {rest : List Oper} {a : Act} {w : World} {d : Tmp} {t ty : TypeId} {fs : Array (Nat × Operand)} {pos : String} {after : Array Edge} {v : Value}
    (hr : (execOp a.eval { dst := some d, op := .build t fs, type := ty, pos := pos, after := after, guard := none }).run P w = .ok (.value v) w) (k : wpList P ops Q rest (a.put (some d) v) w) :
    wpList P ops Q ({ dst := some d, op := .build t fs, type := ty, pos := pos, after := after, guard := none } :: rest) a w := L_run rfl hr k
theorem wtype65 : WType 65 := by unfold WType; decide
/-- The receipt's cells. -/
def rcL (u o : Value) : List Value := [.int .u8 0, .int .u8 0, u, o, nilS] ++ z20.map n8
theorem rcL_one {u o : Value} (h1 : u.oneCell' = true) (h2 : o.oneCell' = true) : ∀ x ∈ (rcL u o).toArray.toList, x.oneCell' = true := by
  intro x hx
  simp only [rcL, List.mem_append, List.mem_cons, List.not_mem_nil, or_false, List.mem_map] at hx
  rcases hx with (rfl | rfl | rfl | rfl | rfl) | ⟨k, _, rfl⟩
  · rfl
  · rfl
  · exact h1
  · exact h2
  · rfl
  · rfl
theorem chM_one {vz wz mv rv fr rt lim gv lf pr tv : Value} {ph s : Nat} (h0 : vz.oneCell' = true) (h1 : wz.oneCell' = true) (h2 : mv.oneCell' = true) (h3 : rv.oneCell' = true) (h4 : fr.oneCell' = true) (h5 : rt.oneCell' = true) (h6 : lim.oneCell' = true) (h7 : gv.oneCell' = true) (h8 : lf.oneCell' = true) (h9 : pr.oneCell' = true) (ha : tv.oneCell' = true) : ∀ x ∈ (chM vz wz mv rv fr rt ph s lim gv lf pr tv).toList, x.oneCell' = true := by
  intro x hx
  simp only [chM, chL, List.mem_append, List.mem_cons, List.not_mem_nil, or_false, List.mem_map] at hx
  rcases hx with (rfl | rfl | rfl | rfl | rfl | rfl | rfl | rfl | rfl | rfl | rfl | rfl | rfl | rfl | rfl | rfl | rfl | rfl | rfl) | ⟨k, _, rfl⟩ | ⟨k, _, rfl⟩ | hx
  all_goals first | assumption | rfl | skip
  exact one_list (by kernel_rfl) x hx
end Go.Own
namespace Go.Proofs.YgcsalGreat
open Go.RowKit Go.Own
theorem size65 : (Salg.prog.info? 65).map (·.size) = some 25 := by kernel_rfl
theorem zero65 : ((Salg.prog.info? 65).bind (·.zero)) = some (.agg (rcL (n64 0) nilS).toArray) := by kernel_rfl
theorem size117 : (Salg.prog.info? 117).map (·.size) = some 179 := by kernel_rfl
theorem zero117 : ((Salg.prog.info? 117).bind (·.zero)) = some (.agg zch.toArray) := by kernel_rfl
theorem setBalance_miss (c : Nat) (cs : Array Value) (va nn nv bv cu sl nvb bvb cub nv2 bv2 : Value) (w : World) (hr : w.heap[c]? = some (.cells cs 119 (0, 0))) (h0 : cs[0]? = some va) (hv : AcsV w va (l3 nv bv cu sl nvb bvb cub nv2 bv2)) (hN : NumV w nn 0) :
    Calls Salg.prog 92 #[.pointer (some ⟨c, 0, none⟩), A8 (ad 192), nn] w fun e w' => ∃ r v', e = .returned r ∧ Kept [c] w w' ∧ w'.heap[c]? = some (.cells (cs.setIfInBounds 0 v') 119 (0, 0)) ∧ AcsV w' v' (l3 nv bv cu sl nvb bvb cub nv2 bv2) := by
  have := setBalance_empty c 119 cs va nn 0 _ (ad 192) w hr h0 hv rfl (ad_ok 192 (by decide)).hs hN rfl (find3_192 _ _ _ _ _ _ _ _ _) (by simp [l3]) (by decide)
  rw [put3_miss] at this
  exact this
theorem account_miss (c tc : Nat) (cs : Array Value) (va nv bv cu sl nvb bvb cub nv2 bv2 : Value) (w : World) (hr : w.heap[c]? = some (.cells cs tc (0, 0))) (h0 : cs[0]? = some va) (hv : AcsV w va (l3 nv bv cu sl nvb bvb cub nv2 bv2)) :
    Calls Salg.prog 85 #[.pointer (some ⟨c, 0, none⟩), A8 (ad 192)] w fun e w' => e = .returned (.agg (acN 192 nilS nilS nilS nilS).cells.toArray) ∧ Kept [] w w' := by
  have := account_any c tc cs va _ (ad 192) w hr h0 hv rfl
  rw [find3_192] at this
  exact this
theorem chL2_one {va tv : Value} (h0 : va.oneCell' = true) (ha : tv.oneCell' = true) : ∀ x ∈ (chL [va, nilS, nilS, nilS, nilS, nilS, nilS, nilS, nilS, nilS, nilS, .int .u8 0, .int .u8 0, .int .u8 1, nilS, nilS, nilS, nilS, tv] z20 z20).toArray.toList, x.oneCell' = true := by
  intro x hx
  simp only [chL, List.mem_append, List.mem_cons, List.not_mem_nil, or_false, List.mem_map] at hx
  rcases hx with (rfl | rfl | rfl | rfl | rfl | rfl | rfl | rfl | rfl | rfl | rfl | rfl | rfl | rfl | rfl | rfl | rfl | rfl | rfl) | ⟨k, _, rfl⟩ | ⟨k, _, rfl⟩ | hx
  all_goals first | assumption | rfl | skip
  exact one_list (by kernel_rfl) x hx
theorem own_slice {w : World} {base e s n : Nat} {v : Value} {xs : List Value} (h : w.ownsRow base e s v n xs) : ∃ p n c, v = .slice p n c := by
  rcases h.2 with ⟨h1, h2⟩ | ⟨g, cap, cur, h1, _⟩
  · exact ⟨_, _, _, h1⟩
  · exact ⟨_, _, _, h1⟩

set_option maxHeartbeats 4000000 in
set_option maxRecDepth 100000 in
theorem finish_ok (c GG : Nat) (bs : List Nat) (la : List (List Nat)) (mo : Option Nat) (so : Option (Nat × Nat)) (R : Nat) (ds1 ds2 : List Nat) (w : World) (hE : EndV w c GG bs la mo so R ds1 ds2) (hG : GG ≤ 200000) :
    Calls Salg.prog 28 #[.pointer (some ⟨c, 0, none⟩)] w fun e w' => ∃ (ou : Value) (U : Nat) (cs : Array Value) (va nv bv cu sl nv2 bv2 cu2 nv3 bb : Value), e = .returned (.agg (rcL (n64 U) ou).toArray) ∧ NatV w' ou bs ∧ w'.heap[c]? = some (.cells cs 119 (0, 0)) ∧ cs[0]? = some va ∧ AcsV w' va (l3 nv bv cu sl nv2 bv2 cu2 nv3 bb) ∧ PartsW w' nv bv cu sl nv2 bv2 cu2 nv3 so ds1 ds2 ∧ NumV w' bb 340282366920938463463374607431768211456 ∧ Kept [c] w w' := by
  obtain ⟨vz, wz, mv, rv, rt, lim, gv0, lf, pr, tv, c1, c2, c3, c4, c5, c6, c7, c8⟩ := hE
  obtain ⟨y0, y1, y2, y3⟩ := WorldW.one c2
  obtain ⟨nv, bv, cu, sl, nv2, bv2, cu2, nv3, bv3, w1, w2, w3, w4, w5, w6, w7, w8, w9, wa, wb, wc, wd⟩ := c2
  replace c1 : w.heap[c]? = some (.cells (chL [vz, wz, mv, rv, nilS, nilS, nilS, nilS, nilS, nilS, rt, .int .u8 2, .int .u8 0, .int .u8 1, lim, gv0, lf, pr, tv] (ad 240) z20).toArray 119 (0, 0)) := c1
  have M : Mem w [c] [(c, .cells (chL [vz, wz, mv, rv, nilS, nilS, nilS, nilS, nilS, nilS, rt, .int .u8 2, .int .u8 0, .int .u8 1, lim, gv0, lf, pr, tv] (ad 240) z20).toArray 119 (0, 0))] w := (Mem.start w [c]).add c1 (by simp)
  have hcl := lt_of_row c1
  have HAC := hid w1
  have HRF := hid w4
  have HPW := hid (PartsW.mk w5 w6 w7 w8 w9 wa wb wc)
  have HB3 := hid wd
  have HLI := hid c3
  have HPR := hid c4
  have HTV := hid c5
  have HLF := hid c6
  have HRT := hid c7
  have HLIO := hid c3.one
  have HLFO := hid c6.one
  have HPRO := hid c4.one
  have HC1 := hid c1
  clear w1 w2 w3 w4 w5 w6 w7 w8 w9 wa wb wc wd c3 c4 c5 c6 c7 c1
  have hbu : 200000 - GG < 256 ^ 200 := Nat.lt_of_le_of_lt (Nat.sub_le _ _) (by decide)
  have hmn : min R ((200000 - GG) / 5) ≤ 200000 - GG := Nat.le_trans (Nat.min_le_right _ _) (Nat.div_le_self _ _)
  obtain ⟨U, hUe⟩ : ∃ U, U = 200000 - GG - min R ((200000 - GG) / 5) := ⟨_, rfl⟩
  have hU : U ≤ 200000 := by rw [hUe]; exact Nat.le_trans (Nat.sub_le _ _) (Nat.sub_le _ _)
  have HUE := hid hUe
  clear hUe
  have hU2 : U < 256 ^ 200 := Nat.lt_of_le_of_lt hU (by decide)
  have hU3 : 200000 - U < 256 ^ 200 := Nat.lt_of_le_of_lt (Nat.sub_le _ _) (by decide)
  go_enter Salg.func28, Salg.ntmps28
  go_wp2_with (first
    | ((with_reducible apply L_allocA (d := 2) M); exact zero65; clear M; intro t2 w1 ht2 M; simp only [Act.put, List.setIfInBounds_toArray, List.set_cons_zero, List.set_cons_succ])
    | ((with_reducible apply W_loadCell); rfl; exact M.r1; exact (show (chL [vz, wz, mv, rv, nilS, nilS, nilS, nilS, nilS, nilS, rt, .int .u8 2, .int .u8 0, .int .u8 1, lim, gv0, lf, pr, tv] (ad 240) z20).toArray[11]? = some (.int .u8 2) by kernel_rfl); exact Salg.underlying5; rfl; simp only [Act.put, List.setIfInBounds_toArray, List.set_cons_zero, List.set_cons_succ]))
  replace HAC := hid (HAC.out.keptC M.kept HC1.out (by decide))
  replace HRF := hid (HRF.out.keptC M.kept HC1.out (not_bytes_at (i := 4) (p := none) (n := 0) (m := 0) (by kernel_rfl)))
  replace HPW := hid (HPW.out.keptC M.kept HC1.out (not_bytes_at (i := 4) (p := none) (n := 0) (m := 0) (by kernel_rfl)) wtype119)
  replace HB3 := hid (HB3.out.keptC M.kept HC1.out (not_bytes_at (i := 4) (p := none) (n := 0) (m := 0) (by kernel_rfl)))
  replace HLI := hid (HLI.out.keptC M.kept HC1.out (not_bytes_at (i := 4) (p := none) (n := 0) (m := 0) (by kernel_rfl)))
  replace HPR := hid (HPR.out.keptC M.kept HC1.out (not_bytes_at (i := 4) (p := none) (n := 0) (m := 0) (by kernel_rfl)))
  replace HTV := hid (HTV.out.keptC M.kept HC1.out (not_bytes_at (i := 4) (p := none) (n := 0) (m := 0) (by kernel_rfl)))
  replace HLF := hid (HLF.out.keptC M.kept HC1.out (not_bytes_at (i := 4) (p := none) (n := 0) (m := 0) (by kernel_rfl)))
  replace HRT := hid (HRT.out.keptC M.kept HC1.out (not_bytes_at (i := 4) (p := none) (n := 0) (m := 0) (by kernel_rfl)))
  have HK : Hid (Kept [c] w w1) := M.kept
  clear HC1
  replace M := M.anew [t2, c]
  have hct : c ≠ t2 := by omega
  refine S_region (by kernel_rfl) ?_
  replace HAC := hid (HAC.out.kept (Kept.refl [] _).drew)
  replace HRF := hid (HRF.out.kept (Kept.refl [] _).drew)
  replace HPW := hid (HPW.out.kept (Kept.refl [] _).drew)
  replace HB3 := hid (HB3.out.kept (Kept.refl [] _).drew)
  replace HLI := hid (HLI.out.kept (Kept.refl [] _).drew)
  replace HPR := hid (HPR.out.kept (Kept.refl [] _).drew)
  replace HTV := hid (HTV.out.kept (Kept.refl [] _).drew)
  replace HLF := hid (HLF.out.kept (Kept.refl [] _).drew)
  replace HRT := hid (HRT.out.kept (Kept.refl [] _).drew)
  refine E_stage 0 10 [0, 1, 2, 3, 4, 5, 6, 7, 8, 9] (by kernel_rfl) M.drew ?_
  clear M
  simp only [List.filterMap_cons, List.filterMap_nil, List.getElem?_cons_zero, List.getElem?_cons_succ]
  ((with_reducible apply E_run); rfl; rfl; (intro w M; go_simp; (try go_ints); (try simp only [↓IntWalk.iteOmega]); (try with_reducible rfl)); simp only [Act.put, List.setIfInBounds_toArray, List.set_cons_zero, List.set_cons_succ])
  ((with_reducible apply E_run); rfl; rfl; (intro w M; go_simp; (try go_ints); (try simp only [↓IntWalk.iteOmega]); (try with_reducible rfl)); simp only [Act.put, List.setIfInBounds_toArray, List.set_cons_zero, List.set_cons_succ])
  ((with_reducible apply E_run); rfl; rfl; (intro w M; go_simp; (try go_ints); (try simp only [↓IntWalk.iteOmega]); (try with_reducible rfl)); simp only [Act.put, List.setIfInBounds_toArray, List.set_cons_zero, List.set_cons_succ])
  ((with_reducible apply E_run); rfl; rfl; (intro w M; exact run_loadCell (M.r1) rfl (show (chL [vz, wz, mv, rv, nilS, nilS, nilS, nilS, nilS, nilS, rt, .int .u8 2, .int .u8 0, .int .u8 1, lim, gv0, lf, pr, tv] (ad 240) z20).toArray[14]? = some (lim) by kernel_rfl) Salg.underlying89 rfl); simp only [Act.put, List.setIfInBounds_toArray, List.set_cons_zero, List.set_cons_succ])
  ((with_reducible apply E_run); rfl; rfl; (intro w M; go_simp; (try go_ints); (try simp only [↓IntWalk.iteOmega]); (try with_reducible rfl)); simp only [Act.put, List.setIfInBounds_toArray, List.set_cons_zero, List.set_cons_succ])
  ((with_reducible apply E_run); rfl; rfl; (intro w M; go_simp; (try go_ints); (try simp only [↓IntWalk.iteOmega]); (try with_reducible rfl)); simp only [Act.put, List.setIfInBounds_toArray, List.set_cons_zero, List.set_cons_succ])
  ((with_reducible apply E_run); rfl; rfl; (intro w M; go_simp; (try go_ints); (try simp only [↓IntWalk.iteOmega]); (try with_reducible rfl)); simp only [Act.put, List.setIfInBounds_toArray, List.set_cons_zero, List.set_cons_succ])
  ((with_reducible apply E_run); rfl; rfl; (intro w M; exact run_loadCell (M.r1) rfl (show (chL [vz, wz, mv, rv, nilS, nilS, nilS, nilS, nilS, nilS, rt, .int .u8 2, .int .u8 0, .int .u8 1, lim, gv0, lf, pr, tv] (ad 240) z20).toArray[16]? = some (lf) by kernel_rfl) Salg.underlying89 rfl); simp only [Act.put, List.setIfInBounds_toArray, List.set_cons_zero, List.set_cons_succ])
  refine E_call rfl Salg.func88 (by kernel_rfl) (by kernel_rfl) (args := [lim, lf]) rfl ?_
  intro w1 K M
  replace HAC := hid (HAC.out.kept K)
  replace HRF := hid (HRF.out.kept K)
  replace HPW := hid (HPW.out.kept K)
  replace HB3 := hid (HB3.out.kept K)
  replace HLI := hid (HLI.out.kept K)
  replace HPR := hid (HPR.out.kept K)
  replace HTV := hid (HTV.out.kept K)
  replace HLF := hid (HLF.out.kept K)
  replace HRT := hid (HRT.out.kept K)
  clear K
  refine (less_any lim lf 200000 GG _ HLI.out HLF.out (by decide) hG).mono ?_
  rintro e w2 ⟨bu, rfl, xHBU, K⟩
  have HBU := hid xHBU
  clear xHBU
  replace HAC := hid (HAC.out.kept K)
  replace HRF := hid (HRF.out.kept K)
  replace HPW := hid (HPW.out.kept K)
  replace HB3 := hid (HB3.out.kept K)
  replace HLI := hid (HLI.out.kept K)
  replace HPR := hid (HPR.out.kept K)
  replace HTV := hid (HTV.out.kept K)
  replace HLF := hid (HLF.out.kept K)
  replace HRT := hid (HRT.out.kept K)
  replace M := M.call K
  refine ⟨_, rfl, trivial, M, ?_⟩
  clear K
  simp only [Act.put, List.setIfInBounds_toArray, List.set_cons_zero, List.set_cons_succ]
  ((with_reducible apply E_run); rfl; rfl; (intro w M; go_simp; (try go_ints); (try simp only [↓IntWalk.iteOmega]); (try with_reducible rfl)); simp only [Act.put, List.setIfInBounds_toArray, List.set_cons_zero, List.set_cons_succ])
  refine E_nil ?_
  intro w3 K M
  replace HAC := hid (HAC.out.kept K)
  replace HRF := hid (HRF.out.kept K)
  replace HPW := hid (HPW.out.kept K)
  replace HB3 := hid (HB3.out.kept K)
  replace HLI := hid (HLI.out.kept K)
  replace HPR := hid (HPR.out.kept K)
  replace HTV := hid (HTV.out.kept K)
  replace HLF := hid (HLF.out.kept K)
  replace HRT := hid (HRT.out.kept K)
  replace HBU := hid (HBU.out.kept K)
  clear K
  refine S_done ?_
  go_wp2_with fail
  clear HLF
  refine S_region (by kernel_rfl) ?_
  replace HAC := hid (HAC.out.kept (Kept.refl [] _).drew)
  replace HRF := hid (HRF.out.kept (Kept.refl [] _).drew)
  replace HPW := hid (HPW.out.kept (Kept.refl [] _).drew)
  replace HB3 := hid (HB3.out.kept (Kept.refl [] _).drew)
  replace HLI := hid (HLI.out.kept (Kept.refl [] _).drew)
  replace HPR := hid (HPR.out.kept (Kept.refl [] _).drew)
  replace HTV := hid (HTV.out.kept (Kept.refl [] _).drew)
  replace HRT := hid (HRT.out.kept (Kept.refl [] _).drew)
  replace HBU := hid (HBU.out.kept (Kept.refl [] _).drew)
  refine E_stage 0 11 [0, 1, 2, 3, 4, 5, 6, 7, 8, 9, 10] (by kernel_rfl) M.drew ?_
  clear M
  simp only [List.filterMap_cons, List.filterMap_nil, List.getElem?_cons_zero, List.getElem?_cons_succ]
  ((with_reducible apply E_run); rfl; rfl; (intro w M; go_simp; (try go_ints); (try simp only [↓IntWalk.iteOmega]); (try with_reducible rfl)); simp only [Act.put, List.setIfInBounds_toArray, List.set_cons_zero, List.set_cons_succ])
  ((with_reducible apply E_run); rfl; rfl; (intro w M; go_simp; (try go_ints); (try simp only [↓IntWalk.iteOmega]); (try with_reducible rfl)); simp only [Act.put, List.setIfInBounds_toArray, List.set_cons_zero, List.set_cons_succ])
  ((with_reducible apply E_run); rfl; rfl; (intro w M; go_simp; (try go_ints); (try simp only [↓IntWalk.iteOmega]); (try with_reducible rfl)); simp only [Act.put, List.setIfInBounds_toArray, List.set_cons_zero, List.set_cons_succ])
  ((with_reducible apply E_run); rfl; rfl; (intro w M; go_simp; (try go_ints); (try simp only [↓IntWalk.iteOmega]); (try with_reducible rfl)); simp only [Act.put, List.setIfInBounds_toArray, List.set_cons_zero, List.set_cons_succ])
  ((with_reducible apply E_run); rfl; rfl; (intro w M; go_simp; (try go_ints); (try simp only [↓IntWalk.iteOmega]); (try with_reducible rfl)); simp only [Act.put, List.setIfInBounds_toArray, List.set_cons_zero, List.set_cons_succ])
  ((with_reducible apply E_run); rfl; rfl; (intro w M; exact run_loadCell (M.r1) rfl (show (chL [vz, wz, mv, rv, nilS, nilS, nilS, nilS, nilS, nilS, rt, .int .u8 2, .int .u8 0, .int .u8 1, lim, gv0, lf, pr, tv] (ad 240) z20).toArray[3]? = some (rv) by kernel_rfl) Salg.underlying89 rfl); simp only [Act.put, List.setIfInBounds_toArray, List.set_cons_zero, List.set_cons_succ])
  ((with_reducible apply E_run); rfl; rfl; (intro w M; go_simp; (try go_ints); (try simp only [↓IntWalk.iteOmega]); (try with_reducible rfl)); simp only [Act.put, List.setIfInBounds_toArray, List.set_cons_zero, List.set_cons_succ])
  refine E_call rfl Salg.func122 (by kernel_rfl) (by kernel_rfl) (args := [bu, .int .u64 5]) rfl ?_
  intro w1 K M
  replace HAC := hid (HAC.out.kept K)
  replace HRF := hid (HRF.out.kept K)
  replace HPW := hid (HPW.out.kept K)
  replace HB3 := hid (HB3.out.kept K)
  replace HLI := hid (HLI.out.kept K)
  replace HPR := hid (HPR.out.kept K)
  replace HTV := hid (HTV.out.kept K)
  replace HRT := hid (HRT.out.kept K)
  replace HBU := hid (HBU.out.kept K)
  clear K
  refine (divided_int bu (200000 - GG) _ 5 rfl _ HBU.out hbu (by decide) (by decide)).mono ?_
  rintro e w4 ⟨dv, rfl, xHDV, K⟩
  have HDV := hid xHDV
  clear xHDV
  replace HAC := hid (HAC.out.kept K)
  replace HRF := hid (HRF.out.kept K)
  replace HPW := hid (HPW.out.kept K)
  replace HB3 := hid (HB3.out.kept K)
  replace HLI := hid (HLI.out.kept K)
  replace HPR := hid (HPR.out.kept K)
  replace HTV := hid (HTV.out.kept K)
  replace HRT := hid (HRT.out.kept K)
  replace HBU := hid (HBU.out.kept K)
  replace M := M.call K
  refine ⟨_, rfl, trivial, M, ?_⟩
  clear K
  simp only [Act.put, List.setIfInBounds_toArray, List.set_cons_zero, List.set_cons_succ]
  refine E_call rfl Salg.func121 (by kernel_rfl) (by kernel_rfl) (args := [rv, dv]) rfl ?_
  intro w1 K M
  replace HAC := hid (HAC.out.kept K)
  replace HRF := hid (HRF.out.kept K)
  replace HPW := hid (HPW.out.kept K)
  replace HB3 := hid (HB3.out.kept K)
  replace HLI := hid (HLI.out.kept K)
  replace HPR := hid (HPR.out.kept K)
  replace HTV := hid (HTV.out.kept K)
  replace HRT := hid (HRT.out.kept K)
  replace HBU := hid (HBU.out.kept K)
  replace HDV := hid (HDV.out.kept K)
  clear K
  refine (minNat_any rv dv R ((200000 - GG) / 5) _ HRF.out HDV.out).mono ?_
  rintro e w5 ⟨mn, rfl, xHMN, K⟩
  have HMN := hid xHMN
  clear xHMN
  replace HAC := hid (HAC.out.kept K)
  replace HRF := hid (HRF.out.kept K)
  replace HPW := hid (HPW.out.kept K)
  replace HB3 := hid (HB3.out.kept K)
  replace HLI := hid (HLI.out.kept K)
  replace HPR := hid (HPR.out.kept K)
  replace HTV := hid (HTV.out.kept K)
  replace HRT := hid (HRT.out.kept K)
  replace HBU := hid (HBU.out.kept K)
  replace HDV := hid (HDV.out.kept K)
  replace M := M.call K
  refine ⟨_, rfl, trivial, M, ?_⟩
  clear K
  simp only [Act.put, List.setIfInBounds_toArray, List.set_cons_zero, List.set_cons_succ]
  refine E_call rfl Salg.func88 (by kernel_rfl) (by kernel_rfl) (args := [bu, mn]) rfl ?_
  intro w1 K M
  replace HAC := hid (HAC.out.kept K)
  replace HRF := hid (HRF.out.kept K)
  replace HPW := hid (HPW.out.kept K)
  replace HB3 := hid (HB3.out.kept K)
  replace HLI := hid (HLI.out.kept K)
  replace HPR := hid (HPR.out.kept K)
  replace HTV := hid (HTV.out.kept K)
  replace HRT := hid (HRT.out.kept K)
  replace HBU := hid (HBU.out.kept K)
  replace HDV := hid (HDV.out.kept K)
  replace HMN := hid (HMN.out.kept K)
  clear K
  refine (less_any bu mn (200000 - GG) (min R ((200000 - GG) / 5)) _ HBU.out HMN.out hbu hmn).mono ?_
  rintro e w6 ⟨us, rfl, xHUS, K⟩
  have HUS := hid xHUS
  clear xHUS
  replace HAC := hid (HAC.out.kept K)
  replace HRF := hid (HRF.out.kept K)
  replace HPW := hid (HPW.out.kept K)
  replace HB3 := hid (HB3.out.kept K)
  replace HLI := hid (HLI.out.kept K)
  replace HPR := hid (HPR.out.kept K)
  replace HTV := hid (HTV.out.kept K)
  replace HRT := hid (HRT.out.kept K)
  replace HBU := hid (HBU.out.kept K)
  replace HDV := hid (HDV.out.kept K)
  replace HMN := hid (HMN.out.kept K)
  replace M := M.call K
  refine ⟨_, rfl, trivial, M, ?_⟩
  clear K
  simp only [Act.put, List.setIfInBounds_toArray, List.set_cons_zero, List.set_cons_succ]
  ((with_reducible apply E_run); rfl; rfl; (intro w M; go_simp; (try go_ints); (try simp only [↓IntWalk.iteOmega]); (try with_reducible rfl)); simp only [Act.put, List.setIfInBounds_toArray, List.set_cons_zero, List.set_cons_succ])
  refine E_nil ?_
  intro w7 K M
  replace HAC := hid (HAC.out.kept K)
  replace HRF := hid (HRF.out.kept K)
  replace HPW := hid (HPW.out.kept K)
  replace HB3 := hid (HB3.out.kept K)
  replace HLI := hid (HLI.out.kept K)
  replace HPR := hid (HPR.out.kept K)
  replace HTV := hid (HTV.out.kept K)
  replace HRT := hid (HRT.out.kept K)
  replace HBU := hid (HBU.out.kept K)
  replace HDV := hid (HDV.out.kept K)
  replace HMN := hid (HMN.out.kept K)
  replace HUS := hid (HUS.out.kept K)
  clear K
  rw [← HUE.out] at HUS
  refine S_done ?_
  go_wp2_with fail
  clear HBU HDV HMN HRF
  clear HUE
  refine S_region (by kernel_rfl) ?_
  replace HAC := hid (HAC.out.kept (Kept.refl [] _).drew)
  replace HPW := hid (HPW.out.kept (Kept.refl [] _).drew)
  replace HB3 := hid (HB3.out.kept (Kept.refl [] _).drew)
  replace HLI := hid (HLI.out.kept (Kept.refl [] _).drew)
  replace HPR := hid (HPR.out.kept (Kept.refl [] _).drew)
  replace HTV := hid (HTV.out.kept (Kept.refl [] _).drew)
  replace HRT := hid (HRT.out.kept (Kept.refl [] _).drew)
  replace HUS := hid (HUS.out.kept (Kept.refl [] _).drew)
  refine E_stage 0 12 [0, 1, 2, 3, 4, 6, 7, 8, 9, 5, 10, 11] (by kernel_rfl) M.drew ?_
  clear M
  simp only [List.filterMap_cons, List.filterMap_nil, List.getElem?_cons_zero, List.getElem?_cons_succ]
  ((with_reducible apply E_run); rfl; rfl; (intro w M; go_simp; (try go_ints); (try simp only [↓IntWalk.iteOmega]); (try with_reducible rfl)); simp only [Act.put, List.setIfInBounds_toArray, List.set_cons_zero, List.set_cons_succ])
  ((with_reducible apply E_run); rfl; rfl; (intro w M; go_simp; (try go_ints); (try simp only [↓IntWalk.iteOmega]); (try with_reducible rfl)); simp only [Act.put, List.setIfInBounds_toArray, List.set_cons_zero, List.set_cons_succ])
  ((with_reducible apply E_run); rfl; rfl; (intro w M; go_simp; (try go_ints); (try simp only [↓IntWalk.iteOmega]); (try with_reducible rfl)); simp only [Act.put, List.setIfInBounds_toArray, List.set_cons_zero, List.set_cons_succ])
  ((with_reducible apply E_run); rfl; rfl; (intro w M; exact run_loadCell (M.r1) rfl (show (chL [vz, wz, mv, rv, nilS, nilS, nilS, nilS, nilS, nilS, rt, .int .u8 2, .int .u8 0, .int .u8 1, lim, gv0, lf, pr, tv] (ad 240) z20).toArray[14]? = some (lim) by kernel_rfl) Salg.underlying89 rfl); simp only [Act.put, List.setIfInBounds_toArray, List.set_cons_zero, List.set_cons_succ])
  ((with_reducible apply E_run); rfl; rfl; (intro w M; go_simp; (try go_ints); (try simp only [↓IntWalk.iteOmega]); (try with_reducible rfl)); simp only [Act.put, List.setIfInBounds_toArray, List.set_cons_zero, List.set_cons_succ])
  ((with_reducible apply E_run); rfl; rfl; (intro w M; go_simp; (try go_ints); (try simp only [↓IntWalk.iteOmega]); (try with_reducible rfl)); simp only [Act.put, List.setIfInBounds_toArray, List.set_cons_zero, List.set_cons_succ])
  ((with_reducible apply E_run); rfl; rfl; (intro w M; go_simp; (try go_ints); (try simp only [↓IntWalk.iteOmega]); (try with_reducible rfl)); simp only [Act.put, List.setIfInBounds_toArray, List.set_cons_zero, List.set_cons_succ])
  ((with_reducible apply E_run); rfl; rfl; (intro w M; go_simp; (try go_ints); (try simp only [↓IntWalk.iteOmega]); (try with_reducible rfl)); simp only [Act.put, List.setIfInBounds_toArray, List.set_cons_zero, List.set_cons_succ])
  ((with_reducible apply E_run); rfl; rfl; (intro w M; exact run_loadCell (M.r1) rfl (show (chL [vz, wz, mv, rv, nilS, nilS, nilS, nilS, nilS, nilS, rt, .int .u8 2, .int .u8 0, .int .u8 1, lim, gv0, lf, pr, tv] (ad 240) z20).toArray[17]? = some (pr) by kernel_rfl) Salg.underlying89 rfl); simp only [Act.put, List.setIfInBounds_toArray, List.set_cons_zero, List.set_cons_succ])
  refine E_call rfl Salg.func88 (by kernel_rfl) (by kernel_rfl) (args := [lim, us]) rfl ?_
  intro w1 K M
  replace HAC := hid (HAC.out.kept K)
  replace HPW := hid (HPW.out.kept K)
  replace HB3 := hid (HB3.out.kept K)
  replace HLI := hid (HLI.out.kept K)
  replace HPR := hid (HPR.out.kept K)
  replace HTV := hid (HTV.out.kept K)
  replace HRT := hid (HRT.out.kept K)
  replace HUS := hid (HUS.out.kept K)
  clear K
  refine (less_any lim us 200000 U _ HLI.out HUS.out (by decide) hU).mono ?_
  rintro e w8 ⟨x1, rfl, xHX1, K⟩
  have HX1 := hid xHX1
  clear xHX1
  replace HAC := hid (HAC.out.kept K)
  replace HPW := hid (HPW.out.kept K)
  replace HB3 := hid (HB3.out.kept K)
  replace HLI := hid (HLI.out.kept K)
  replace HPR := hid (HPR.out.kept K)
  replace HTV := hid (HTV.out.kept K)
  replace HRT := hid (HRT.out.kept K)
  replace HUS := hid (HUS.out.kept K)
  replace M := M.call K
  refine ⟨_, rfl, trivial, M, ?_⟩
  clear K
  simp only [Act.put, List.setIfInBounds_toArray, List.set_cons_zero, List.set_cons_succ]
  refine E_call rfl Salg.func70 (by kernel_rfl) (by kernel_rfl) (args := [x1, pr]) rfl ?_
  intro w1 K M
  replace HAC := hid (HAC.out.kept K)
  replace HPW := hid (HPW.out.kept K)
  replace HB3 := hid (HB3.out.kept K)
  replace HLI := hid (HLI.out.kept K)
  replace HPR := hid (HPR.out.kept K)
  replace HTV := hid (HTV.out.kept K)
  replace HRT := hid (HRT.out.kept K)
  replace HUS := hid (HUS.out.kept K)
  replace HX1 := hid (HX1.out.kept K)
  clear K
  refine (mul_num x1 pr (200000 - U) 0 _ HX1.out HPR.out hU3 (by decide)).mono ?_
  rintro e w9 ⟨bk, rfl, xHBK, K⟩
  have HBK := hid xHBK
  clear xHBK
  replace HAC := hid (HAC.out.kept K)
  replace HPW := hid (HPW.out.kept K)
  replace HB3 := hid (HB3.out.kept K)
  replace HLI := hid (HLI.out.kept K)
  replace HPR := hid (HPR.out.kept K)
  replace HTV := hid (HTV.out.kept K)
  replace HRT := hid (HRT.out.kept K)
  replace HUS := hid (HUS.out.kept K)
  replace HX1 := hid (HX1.out.kept K)
  replace M := M.call K
  refine ⟨_, rfl, trivial, M, ?_⟩
  clear K
  simp only [Act.put, List.setIfInBounds_toArray, List.set_cons_zero, List.set_cons_succ]
  ((with_reducible apply E_run); rfl; rfl; (intro w M; go_simp; (try go_ints); (try simp only [↓IntWalk.iteOmega]); (try with_reducible rfl)); simp only [Act.put, List.setIfInBounds_toArray, List.set_cons_zero, List.set_cons_succ])
  refine E_nil ?_
  intro w10 K M
  replace HAC := hid (HAC.out.kept K)
  replace HPW := hid (HPW.out.kept K)
  replace HB3 := hid (HB3.out.kept K)
  replace HLI := hid (HLI.out.kept K)
  replace HPR := hid (HPR.out.kept K)
  replace HTV := hid (HTV.out.kept K)
  replace HRT := hid (HRT.out.kept K)
  replace HUS := hid (HUS.out.kept K)
  replace HX1 := hid (HX1.out.kept K)
  replace HBK := hid (HBK.out.kept K)
  clear K
  rw [Nat.mul_zero] at HBK
  refine S_done ?_
  go_wp2_with fail
  clear HX1 HLI
  refine S_region (by kernel_rfl) ?_
  replace HAC := hid (HAC.out.kept (Kept.refl [] _).drew)
  replace HPW := hid (HPW.out.kept (Kept.refl [] _).drew)
  replace HB3 := hid (HB3.out.kept (Kept.refl [] _).drew)
  replace HPR := hid (HPR.out.kept (Kept.refl [] _).drew)
  replace HTV := hid (HTV.out.kept (Kept.refl [] _).drew)
  replace HRT := hid (HRT.out.kept (Kept.refl [] _).drew)
  replace HUS := hid (HUS.out.kept (Kept.refl [] _).drew)
  replace HBK := hid (HBK.out.kept (Kept.refl [] _).drew)
  refine E_stage 0 18 [0, 1, 2, 3, 4, 5, 6, 7, 8, 9, 10, 11, 12, 13, 16, 14, 15, 17] (by kernel_rfl) M.drew ?_
  clear M
  simp only [List.filterMap_cons, List.filterMap_nil, List.getElem?_cons_zero, List.getElem?_cons_succ]
  ((with_reducible apply E_run); rfl; rfl; (intro w M; go_simp; (try go_ints); (try simp only [↓IntWalk.iteOmega]); (try with_reducible rfl)); simp only [Act.put, List.setIfInBounds_toArray, List.set_cons_zero, List.set_cons_succ])
  ((with_reducible apply E_run); rfl; rfl; (intro w M; go_simp; (try go_ints); (try simp only [↓IntWalk.iteOmega]); (try with_reducible rfl)); simp only [Act.put, List.setIfInBounds_toArray, List.set_cons_zero, List.set_cons_succ])
  ((with_reducible apply E_run); rfl; rfl; (intro w M; go_simp; (try go_ints); (try simp only [↓IntWalk.iteOmega]); (try with_reducible rfl)); simp only [Act.put, List.setIfInBounds_toArray, List.set_cons_zero, List.set_cons_succ])
  ((with_reducible apply E_run); rfl; rfl; (intro w M; go_simp; (try go_ints); (try simp only [↓IntWalk.iteOmega]); (try with_reducible rfl)); simp only [Act.put, List.setIfInBounds_toArray, List.set_cons_zero, List.set_cons_succ])
  ((with_reducible apply E_run); rfl; rfl; (intro w M; go_simp; (try go_ints); (try simp only [↓IntWalk.iteOmega]); (try with_reducible rfl)); simp only [Act.put, List.setIfInBounds_toArray, List.set_cons_zero, List.set_cons_succ])
  ((with_reducible apply E_run); rfl; rfl; (intro w M; go_simp; (try go_ints); (try simp only [↓IntWalk.iteOmega]); (try with_reducible rfl)); simp only [Act.put, List.setIfInBounds_toArray, List.set_cons_zero, List.set_cons_succ])
  ((with_reducible apply E_run (v := .agg ((ad 240).map n8).toArray)); rfl; rfl; (intro w M; exact run_loadX (n := 20) M.r1 rfl Salg.underlying45 rfl size45 (Nat.le_of_ble_eq_true (by kernel_rfl)) (show ((chL [vz, wz, mv, rv, nilS, nilS, nilS, nilS, nilS, nilS, rt, .int .u8 2, .int .u8 0, .int .u8 1, lim, gv0, lf, pr, tv] (ad 240) z20).toArray).extract 19 (19 + 20) = _ by kernel_rfl)); simp only [Act.put, List.setIfInBounds_toArray, List.set_cons_zero, List.set_cons_succ])
  ((with_reducible apply E_run); rfl; rfl; (intro w M; go_simp; (try go_ints); (try simp only [↓IntWalk.iteOmega]); (try with_reducible rfl)); simp only [Act.put, List.setIfInBounds_toArray, List.set_cons_zero, List.set_cons_succ])
  ((with_reducible apply E_run); rfl; rfl; (intro w M; go_simp; (try go_ints); (try simp only [↓IntWalk.iteOmega]); (try with_reducible rfl)); simp only [Act.put, List.setIfInBounds_toArray, List.set_cons_zero, List.set_cons_succ])
  ((with_reducible apply E_run); rfl; rfl; (intro w M; go_simp; (try go_ints); (try simp only [↓IntWalk.iteOmega]); (try with_reducible rfl)); simp only [Act.put, List.setIfInBounds_toArray, List.set_cons_zero, List.set_cons_succ])
  ((with_reducible apply E_run); rfl; rfl; (intro w M; go_simp; (try go_ints); (try simp only [↓IntWalk.iteOmega]); (try with_reducible rfl)); simp only [Act.put, List.setIfInBounds_toArray, List.set_cons_zero, List.set_cons_succ])
  ((with_reducible apply E_run); rfl; rfl; (intro w M; go_simp; (try go_ints); (try simp only [↓IntWalk.iteOmega]); (try with_reducible rfl)); simp only [Act.put, List.setIfInBounds_toArray, List.set_cons_zero, List.set_cons_succ])
  ((with_reducible apply E_run); rfl; rfl; (intro w M; go_simp; (try go_ints); (try simp only [↓IntWalk.iteOmega]); (try with_reducible rfl)); simp only [Act.put, List.setIfInBounds_toArray, List.set_cons_zero, List.set_cons_succ])
  ((with_reducible apply E_run (v := .agg ((ad 240).map n8).toArray)); rfl; rfl; (intro w M; exact run_loadX (n := 20) M.r1 rfl Salg.underlying45 rfl size45 (Nat.le_of_ble_eq_true (by kernel_rfl)) (show ((chL [vz, wz, mv, rv, nilS, nilS, nilS, nilS, nilS, nilS, rt, .int .u8 2, .int .u8 0, .int .u8 1, lim, gv0, lf, pr, tv] (ad 240) z20).toArray).extract 19 (19 + 20) = _ by kernel_rfl)); simp only [Act.put, List.setIfInBounds_toArray, List.set_cons_zero, List.set_cons_succ])
  ((with_reducible apply E_run); rfl; rfl; (intro w M; go_simp; (try go_ints); (try simp only [↓IntWalk.iteOmega]); (try with_reducible rfl)); simp only [Act.put, List.setIfInBounds_toArray, List.set_cons_zero, List.set_cons_succ])
  refine E_call rfl Salg.func85 (by kernel_rfl) (by kernel_rfl) (args := [.pointer (some ⟨c, 0, none⟩), A8 (ad 240)]) rfl ?_
  intro w1 K M
  replace HAC := hid (HAC.out.kept K)
  replace HPW := hid (HPW.out.kept K)
  replace HB3 := hid (HB3.out.kept K)
  replace HPR := hid (HPR.out.kept K)
  replace HTV := hid (HTV.out.kept K)
  replace HRT := hid (HRT.out.kept K)
  replace HUS := hid (HUS.out.kept K)
  replace HBK := hid (HBK.out.kept K)
  clear K
  refine (account_S c 119 _ _ nv bv cu sl nv2 bv2 cu2 nv3 bv3 _ M.r1 (show (chL [vz, wz, mv, rv, nilS, nilS, nilS, nilS, nilS, nilS, rt, .int .u8 2, .int .u8 0, .int .u8 1, lim, gv0, lf, pr, tv] (ad 240) z20).toArray[0]? = some (vz) by kernel_rfl) HAC.out).mono ?_
  rintro e w11 ⟨rfl, K⟩
  replace HAC := hid (HAC.out.kept K)
  replace HPW := hid (HPW.out.kept K)
  replace HB3 := hid (HB3.out.kept K)
  replace HPR := hid (HPR.out.kept K)
  replace HTV := hid (HTV.out.kept K)
  replace HRT := hid (HRT.out.kept K)
  replace HUS := hid (HUS.out.kept K)
  replace HBK := hid (HBK.out.kept K)
  replace M := M.call K
  refine ⟨_, rfl, trivial, M, ?_⟩
  clear K
  simp only [Act.put, List.setIfInBounds_toArray, List.set_cons_zero, List.set_cons_succ]
  ((with_reducible apply E_run (v := bv3)); rfl; rfl; (intro w M; kernel_rfl); simp only [Act.put, List.setIfInBounds_toArray, List.set_cons_zero, List.set_cons_succ])
  refine E_call rfl Salg.func68 (by kernel_rfl) (by kernel_rfl) (args := [bv3, bk]) rfl ?_
  intro w1 K M
  replace HAC := hid (HAC.out.kept K)
  replace HPW := hid (HPW.out.kept K)
  replace HB3 := hid (HB3.out.kept K)
  replace HPR := hid (HPR.out.kept K)
  replace HTV := hid (HTV.out.kept K)
  replace HRT := hid (HRT.out.kept K)
  replace HUS := hid (HUS.out.kept K)
  replace HBK := hid (HBK.out.kept K)
  clear K
  refine (add_num bv3 bk 340282366920938463463374607431768211456 0 _ HB3.out HBK.out (by decide) (by decide)).mono ?_
  rintro e w12 ⟨bb, rfl, xHBB, K⟩
  have HBB := hid xHBB
  clear xHBB
  replace HAC := hid (HAC.out.kept K)
  replace HPW := hid (HPW.out.kept K)
  replace HB3 := hid (HB3.out.kept K)
  replace HPR := hid (HPR.out.kept K)
  replace HTV := hid (HTV.out.kept K)
  replace HRT := hid (HRT.out.kept K)
  replace HUS := hid (HUS.out.kept K)
  replace HBK := hid (HBK.out.kept K)
  replace M := M.call K
  refine ⟨_, rfl, trivial, M, ?_⟩
  clear K
  simp only [Act.put, List.setIfInBounds_toArray, List.set_cons_zero, List.set_cons_succ]
  refine E_nil ?_
  intro w13 K M
  replace HAC := hid (HAC.out.kept K)
  replace HPW := hid (HPW.out.kept K)
  replace HB3 := hid (HB3.out.kept K)
  replace HPR := hid (HPR.out.kept K)
  replace HTV := hid (HTV.out.kept K)
  replace HRT := hid (HRT.out.kept K)
  replace HUS := hid (HUS.out.kept K)
  replace HBK := hid (HBK.out.kept K)
  replace HBB := hid (HBB.out.kept K)
  clear K
  rw [Nat.add_zero] at HBB
  clear HBK HB3
  have HN3 := hid HPW.out.n3
  refine S_seg 18 19 (by kernel_rfl) (by decide) ?_
  simp only [List.take_succ_cons, List.take_zero, List.drop_zero, List.drop_succ_cons, Nat.sub_zero, Nat.reduceSub]
  go_wp2_with fail
  refine (setBalance_S c _ _ bb nv bv cu sl nv2 bv2 cu2 nv3 bv3 _ _ M.r1 (show (chL [vz, wz, mv, rv, nilS, nilS, nilS, nilS, nilS, nilS, rt, .int .u8 2, .int .u8 0, .int .u8 1, lim, gv0, lf, pr, tv] (ad 240) z20).toArray[0]? = some (vz) by kernel_rfl) HAC.out HN3.out HBB.out).mono ?_
  rintro e w14 ⟨rr, va2, rfl, K, hr3, xA⟩
  rw [show (chL [vz, wz, mv, rv, nilS, nilS, nilS, nilS, nilS, nilS, rt, .int .u8 2, .int .u8 0, .int .u8 1, lim, gv0, lf, pr, tv] (ad 240) z20).toArray.setIfInBounds 0 va2 = (chL [va2, wz, mv, rv, nilS, nilS, nilS, nilS, nilS, nilS, rt, .int .u8 2, .int .u8 0, .int .u8 1, lim, gv0, lf, pr, tv] (ad 240) z20).toArray from by kernel_rfl] at hr3
  replace HPW := hid (HPW.out.keptC K M.r1 (not_bytes_at (i := 4) (p := none) (n := 0) (m := 0) (by kernel_rfl)) wtype119)
  replace HPR := hid (HPR.out.keptC K M.r1 (not_bytes_at (i := 4) (p := none) (n := 0) (m := 0) (by kernel_rfl)))
  replace HTV := hid (HTV.out.keptC K M.r1 (not_bytes_at (i := 4) (p := none) (n := 0) (m := 0) (by kernel_rfl)))
  replace HRT := hid (HRT.out.keptC K M.r1 (not_bytes_at (i := 4) (p := none) (n := 0) (m := 0) (by kernel_rfl)))
  replace HUS := hid (HUS.out.keptC K M.r1 (not_bytes_at (i := 4) (p := none) (n := 0) (m := 0) (by kernel_rfl)))
  replace HBB := hid (HBB.out.keptC K M.r1 (not_bytes_at (i := 4) (p := none) (n := 0) (m := 0) (by kernel_rfl)))
  have HAC2 := hid xA
  replace M := Mem.callPut (L1 := [(t2, _)]) M (Or.inl (by simp)) K hr3
  clear K hr3 xA
  simp only [List.cons_append, List.nil_append] at M
  clear HAC HN3
  go_wp2_with fail
  refine S_done ?_
  go_wp2_with fail
  refine S_region (by kernel_rfl) ?_
  replace HPW := hid (HPW.out.kept (Kept.refl [] _).drew)
  replace HPR := hid (HPR.out.kept (Kept.refl [] _).drew)
  replace HTV := hid (HTV.out.kept (Kept.refl [] _).drew)
  replace HRT := hid (HRT.out.kept (Kept.refl [] _).drew)
  replace HUS := hid (HUS.out.kept (Kept.refl [] _).drew)
  replace HBB := hid (HBB.out.kept (Kept.refl [] _).drew)
  replace HAC2 := hid (HAC2.out.kept (Kept.refl [] _).drew)
  refine E_stage 0 10 [0, 1, 2, 3, 4, 5, 6, 7, 8, 9] (by kernel_rfl) M.drew ?_
  clear M
  simp only [List.filterMap_cons, List.filterMap_nil, List.getElem?_cons_zero, List.getElem?_cons_succ]
  ((with_reducible apply E_run); rfl; rfl; (intro w M; go_simp; (try go_ints); (try simp only [↓IntWalk.iteOmega]); (try with_reducible rfl)); simp only [Act.put, List.setIfInBounds_toArray, List.set_cons_zero, List.set_cons_succ])
  ((with_reducible apply E_run); rfl; rfl; (intro w M; go_simp; (try go_ints); (try simp only [↓IntWalk.iteOmega]); (try with_reducible rfl)); simp only [Act.put, List.setIfInBounds_toArray, List.set_cons_zero, List.set_cons_succ])
  ((with_reducible apply E_run); rfl; rfl; (intro w M; go_simp; (try go_ints); (try simp only [↓IntWalk.iteOmega]); (try with_reducible rfl)); simp only [Act.put, List.setIfInBounds_toArray, List.set_cons_zero, List.set_cons_succ])
  ((with_reducible apply E_run); rfl; rfl; (intro w M; go_simp; (try go_ints); (try simp only [↓IntWalk.iteOmega]); (try with_reducible rfl)); simp only [Act.put, List.setIfInBounds_toArray, List.set_cons_zero, List.set_cons_succ])
  ((with_reducible apply E_run); rfl; rfl; (intro w M; exact run_loadCell (M.r1) rfl (show (chL [va2, wz, mv, rv, nilS, nilS, nilS, nilS, nilS, nilS, rt, .int .u8 2, .int .u8 0, .int .u8 1, lim, gv0, lf, pr, tv] (ad 240) z20).toArray[17]? = some (pr) by kernel_rfl) Salg.underlying89 rfl); simp only [Act.put, List.setIfInBounds_toArray, List.set_cons_zero, List.set_cons_succ])
  ((with_reducible apply E_run); rfl; rfl; (intro w M; go_simp; (try go_ints); (try simp only [↓IntWalk.iteOmega]); (try with_reducible rfl)); simp only [Act.put, List.setIfInBounds_toArray, List.set_cons_zero, List.set_cons_succ])
  refine E_call rfl Salg.func123 (by kernel_rfl) (by kernel_rfl) (args := [.pointer (some ⟨c, 0, none⟩)]) rfl ?_
  intro w1 K M
  replace HPW := hid (HPW.out.kept K)
  replace HPR := hid (HPR.out.kept K)
  replace HTV := hid (HTV.out.kept K)
  replace HRT := hid (HRT.out.kept K)
  replace HUS := hid (HUS.out.kept K)
  replace HBB := hid (HBB.out.kept K)
  replace HAC2 := hid (HAC2.out.kept K)
  clear K
  refine (baseFee_any c 119 _ _ M.r1 (chL_fee rfl rfl rfl) (by kernel_rfl)).mono ?_
  rintro e w15 ⟨bf, rfl, xHBF, K⟩
  have HBF := hid xHBF
  clear xHBF
  replace HPW := hid (HPW.out.kept K)
  replace HPR := hid (HPR.out.kept K)
  replace HTV := hid (HTV.out.kept K)
  replace HRT := hid (HRT.out.kept K)
  replace HUS := hid (HUS.out.kept K)
  replace HBB := hid (HBB.out.kept K)
  replace HAC2 := hid (HAC2.out.kept K)
  replace M := M.call K
  refine ⟨_, rfl, trivial, M, ?_⟩
  clear K
  simp only [Act.put, List.setIfInBounds_toArray, List.set_cons_zero, List.set_cons_succ]
  refine E_call rfl Salg.func88 (by kernel_rfl) (by kernel_rfl) (args := [pr, bf]) rfl ?_
  intro w1 K M
  replace HPW := hid (HPW.out.kept K)
  replace HPR := hid (HPR.out.kept K)
  replace HTV := hid (HTV.out.kept K)
  replace HRT := hid (HRT.out.kept K)
  replace HUS := hid (HUS.out.kept K)
  replace HBB := hid (HBB.out.kept K)
  replace HAC2 := hid (HAC2.out.kept K)
  replace HBF := hid (HBF.out.kept K)
  clear K
  refine (less_any pr bf 0 0 _ HPR.out HBF.out (by decide) (by decide)).mono ?_
  rintro e w16 ⟨d0, rfl, xHD0, K⟩
  have HD0 := hid xHD0
  clear xHD0
  replace HPW := hid (HPW.out.kept K)
  replace HPR := hid (HPR.out.kept K)
  replace HTV := hid (HTV.out.kept K)
  replace HRT := hid (HRT.out.kept K)
  replace HUS := hid (HUS.out.kept K)
  replace HBB := hid (HBB.out.kept K)
  replace HAC2 := hid (HAC2.out.kept K)
  replace HBF := hid (HBF.out.kept K)
  replace M := M.call K
  refine ⟨_, rfl, trivial, M, ?_⟩
  clear K
  simp only [Act.put, List.setIfInBounds_toArray, List.set_cons_zero, List.set_cons_succ]
  refine E_call rfl Salg.func70 (by kernel_rfl) (by kernel_rfl) (args := [us, d0]) rfl ?_
  intro w1 K M
  replace HPW := hid (HPW.out.kept K)
  replace HPR := hid (HPR.out.kept K)
  replace HTV := hid (HTV.out.kept K)
  replace HRT := hid (HRT.out.kept K)
  replace HUS := hid (HUS.out.kept K)
  replace HBB := hid (HBB.out.kept K)
  replace HAC2 := hid (HAC2.out.kept K)
  replace HBF := hid (HBF.out.kept K)
  replace HD0 := hid (HD0.out.kept K)
  clear K
  refine (mul_num us d0 U (0 - 0) _ HUS.out HD0.out hU2 (by decide)).mono ?_
  rintro e w17 ⟨fe, rfl, xHFE, K⟩
  have HFE := hid xHFE
  clear xHFE
  replace HPW := hid (HPW.out.kept K)
  replace HPR := hid (HPR.out.kept K)
  replace HTV := hid (HTV.out.kept K)
  replace HRT := hid (HRT.out.kept K)
  replace HUS := hid (HUS.out.kept K)
  replace HBB := hid (HBB.out.kept K)
  replace HAC2 := hid (HAC2.out.kept K)
  replace HBF := hid (HBF.out.kept K)
  replace HD0 := hid (HD0.out.kept K)
  replace M := M.call K
  refine ⟨_, rfl, trivial, M, ?_⟩
  clear K
  simp only [Act.put, List.setIfInBounds_toArray, List.set_cons_zero, List.set_cons_succ]
  ((with_reducible apply E_run); rfl; rfl; (intro w M; go_simp; (try go_ints); (try simp only [↓IntWalk.iteOmega]); (try with_reducible rfl)); simp only [Act.put, List.setIfInBounds_toArray, List.set_cons_zero, List.set_cons_succ])
  refine E_nil ?_
  intro w18 K M
  replace HPW := hid (HPW.out.kept K)
  replace HPR := hid (HPR.out.kept K)
  replace HTV := hid (HTV.out.kept K)
  replace HRT := hid (HRT.out.kept K)
  replace HUS := hid (HUS.out.kept K)
  replace HBB := hid (HBB.out.kept K)
  replace HAC2 := hid (HAC2.out.kept K)
  replace HBF := hid (HBF.out.kept K)
  replace HD0 := hid (HD0.out.kept K)
  replace HFE := hid (HFE.out.kept K)
  clear K
  rw [Nat.sub_zero, Nat.mul_zero] at HFE
  refine S_done ?_
  go_wp2_with fail
  clear HBF HD0
  refine S_region (by kernel_rfl) ?_
  replace HPW := hid (HPW.out.kept (Kept.refl [] _).drew)
  replace HPR := hid (HPR.out.kept (Kept.refl [] _).drew)
  replace HTV := hid (HTV.out.kept (Kept.refl [] _).drew)
  replace HRT := hid (HRT.out.kept (Kept.refl [] _).drew)
  replace HUS := hid (HUS.out.kept (Kept.refl [] _).drew)
  replace HBB := hid (HBB.out.kept (Kept.refl [] _).drew)
  replace HAC2 := hid (HAC2.out.kept (Kept.refl [] _).drew)
  replace HFE := hid (HFE.out.kept (Kept.refl [] _).drew)
  refine E_stage 0 14 [0, 1, 2, 3, 4, 5, 6, 7, 8, 9, 11, 10, 12, 13] (by kernel_rfl) M.drew ?_
  clear M
  simp only [List.filterMap_cons, List.filterMap_nil, List.getElem?_cons_zero, List.getElem?_cons_succ]
  ((with_reducible apply E_run); rfl; rfl; (intro w M; go_simp; (try go_ints); (try simp only [↓IntWalk.iteOmega]); (try with_reducible rfl)); simp only [Act.put, List.setIfInBounds_toArray, List.set_cons_zero, List.set_cons_succ])
  ((with_reducible apply E_run); rfl; rfl; (intro w M; go_simp; (try go_ints); (try simp only [↓IntWalk.iteOmega]); (try with_reducible rfl)); simp only [Act.put, List.setIfInBounds_toArray, List.set_cons_zero, List.set_cons_succ])
  ((with_reducible apply E_run); rfl; rfl; (intro w M; go_simp; (try go_ints); (try simp only [↓IntWalk.iteOmega]); (try with_reducible rfl)); simp only [Act.put, List.setIfInBounds_toArray, List.set_cons_zero, List.set_cons_succ])
  ((with_reducible apply E_run); rfl; rfl; (intro w M; go_simp; (try go_ints); (try simp only [↓IntWalk.iteOmega]); (try with_reducible rfl)); simp only [Act.put, List.setIfInBounds_toArray, List.set_cons_zero, List.set_cons_succ])
  ((with_reducible apply E_run); rfl; rfl; (intro w M; exact run_loadCell (M.r1) rfl (show (chL [va2, wz, mv, rv, nilS, nilS, nilS, nilS, nilS, nilS, rt, .int .u8 2, .int .u8 0, .int .u8 1, lim, gv0, lf, pr, tv] (ad 240) z20).toArray[18]? = some (tv) by kernel_rfl) Salg.underlying89 rfl); simp only [Act.put, List.setIfInBounds_toArray, List.set_cons_zero, List.set_cons_succ])
  ((with_reducible apply E_run); rfl; rfl; (intro w M; go_simp; (try go_ints); (try simp only [↓IntWalk.iteOmega]); (try with_reducible rfl)); simp only [Act.put, List.setIfInBounds_toArray, List.set_cons_zero, List.set_cons_succ])
  ((with_reducible apply E_run); rfl; rfl; (intro w M; go_simp; (try go_ints); (try simp only [↓IntWalk.iteOmega]); (try with_reducible rfl)); simp only [Act.put, List.setIfInBounds_toArray, List.set_cons_zero, List.set_cons_succ])
  ((with_reducible apply E_run); rfl; rfl; (intro w M; go_simp; (try go_ints); (try simp only [↓IntWalk.iteOmega]); (try with_reducible rfl)); simp only [Act.put, List.setIfInBounds_toArray, List.set_cons_zero, List.set_cons_succ])
  ((with_reducible apply E_run); rfl; rfl; (intro w M; go_simp; (try go_ints); (try simp only [↓IntWalk.iteOmega]); (try with_reducible rfl)); simp only [Act.put, List.setIfInBounds_toArray, List.set_cons_zero, List.set_cons_succ])
  ((with_reducible apply E_run); rfl; rfl; (intro w M; exact run_loadCell (M.r1) rfl (show (chL [va2, wz, mv, rv, nilS, nilS, nilS, nilS, nilS, nilS, rt, .int .u8 2, .int .u8 0, .int .u8 1, lim, gv0, lf, pr, tv] (ad 240) z20).toArray[17]? = some (pr) by kernel_rfl) Salg.underlying89 rfl); simp only [Act.put, List.setIfInBounds_toArray, List.set_cons_zero, List.set_cons_succ])
  ((with_reducible apply E_run); rfl; rfl; (intro w M; go_simp; (try go_ints); (try simp only [↓IntWalk.iteOmega]); (try with_reducible rfl)); simp only [Act.put, List.setIfInBounds_toArray, List.set_cons_zero, List.set_cons_succ])
  refine E_call rfl Salg.func70 (by kernel_rfl) (by kernel_rfl) (args := [us, pr]) rfl ?_
  intro w1 K M
  replace HPW := hid (HPW.out.kept K)
  replace HPR := hid (HPR.out.kept K)
  replace HTV := hid (HTV.out.kept K)
  replace HRT := hid (HRT.out.kept K)
  replace HUS := hid (HUS.out.kept K)
  replace HBB := hid (HBB.out.kept K)
  replace HAC2 := hid (HAC2.out.kept K)
  replace HFE := hid (HFE.out.kept K)
  clear K
  refine (mul_num us pr U 0 _ HUS.out HPR.out hU2 (by decide)).mono ?_
  rintro e w19 ⟨m1, rfl, xHM1, K⟩
  have HM1 := hid xHM1
  clear xHM1
  replace HPW := hid (HPW.out.kept K)
  replace HPR := hid (HPR.out.kept K)
  replace HTV := hid (HTV.out.kept K)
  replace HRT := hid (HRT.out.kept K)
  replace HUS := hid (HUS.out.kept K)
  replace HBB := hid (HBB.out.kept K)
  replace HAC2 := hid (HAC2.out.kept K)
  replace HFE := hid (HFE.out.kept K)
  replace M := M.call K
  refine ⟨_, rfl, trivial, M, ?_⟩
  clear K
  simp only [Act.put, List.setIfInBounds_toArray, List.set_cons_zero, List.set_cons_succ]
  refine E_call rfl Salg.func88 (by kernel_rfl) (by kernel_rfl) (args := [m1, fe]) rfl ?_
  intro w1 K M
  replace HPW := hid (HPW.out.kept K)
  replace HPR := hid (HPR.out.kept K)
  replace HTV := hid (HTV.out.kept K)
  replace HRT := hid (HRT.out.kept K)
  replace HUS := hid (HUS.out.kept K)
  replace HBB := hid (HBB.out.kept K)
  replace HAC2 := hid (HAC2.out.kept K)
  replace HFE := hid (HFE.out.kept K)
  replace HM1 := hid (HM1.out.kept K)
  clear K
  refine (less_any m1 fe (U * 0) 0 _ HM1.out HFE.out (by rw [Nat.mul_zero]; decide) (Nat.zero_le _)).mono ?_
  rintro e w20 ⟨l1, rfl, xHL1, K⟩
  have HL1 := hid xHL1
  clear xHL1
  replace HPW := hid (HPW.out.kept K)
  replace HPR := hid (HPR.out.kept K)
  replace HTV := hid (HTV.out.kept K)
  replace HRT := hid (HRT.out.kept K)
  replace HUS := hid (HUS.out.kept K)
  replace HBB := hid (HBB.out.kept K)
  replace HAC2 := hid (HAC2.out.kept K)
  replace HFE := hid (HFE.out.kept K)
  replace HM1 := hid (HM1.out.kept K)
  replace M := M.call K
  refine ⟨_, rfl, trivial, M, ?_⟩
  clear K
  simp only [Act.put, List.setIfInBounds_toArray, List.set_cons_zero, List.set_cons_succ]
  refine E_call rfl Salg.func88 (by kernel_rfl) (by kernel_rfl) (args := [tv, l1]) rfl ?_
  intro w1 K M
  replace HPW := hid (HPW.out.kept K)
  replace HPR := hid (HPR.out.kept K)
  replace HTV := hid (HTV.out.kept K)
  replace HRT := hid (HRT.out.kept K)
  replace HUS := hid (HUS.out.kept K)
  replace HBB := hid (HBB.out.kept K)
  replace HAC2 := hid (HAC2.out.kept K)
  replace HFE := hid (HFE.out.kept K)
  replace HM1 := hid (HM1.out.kept K)
  replace HL1 := hid (HL1.out.kept K)
  clear K
  refine (less_any tv l1 340282366920938463463374607431768211456 (U * 0 - 0) _ HTV.out HL1.out (by decide) (by rw [Nat.mul_zero]; decide)).mono ?_
  rintro e w21 ⟨tv2, rfl, xHT2, K⟩
  have HT2 := hid xHT2
  clear xHT2
  replace HPW := hid (HPW.out.kept K)
  replace HPR := hid (HPR.out.kept K)
  replace HTV := hid (HTV.out.kept K)
  replace HRT := hid (HRT.out.kept K)
  replace HUS := hid (HUS.out.kept K)
  replace HBB := hid (HBB.out.kept K)
  replace HAC2 := hid (HAC2.out.kept K)
  replace HFE := hid (HFE.out.kept K)
  replace HM1 := hid (HM1.out.kept K)
  replace HL1 := hid (HL1.out.kept K)
  replace M := M.call K
  refine ⟨_, rfl, trivial, M, ?_⟩
  clear K
  simp only [Act.put, List.setIfInBounds_toArray, List.set_cons_zero, List.set_cons_succ]
  refine E_nil ?_
  intro w22 K M
  replace HPW := hid (HPW.out.kept K)
  replace HPR := hid (HPR.out.kept K)
  replace HTV := hid (HTV.out.kept K)
  replace HRT := hid (HRT.out.kept K)
  replace HUS := hid (HUS.out.kept K)
  replace HBB := hid (HBB.out.kept K)
  replace HAC2 := hid (HAC2.out.kept K)
  replace HFE := hid (HFE.out.kept K)
  replace HM1 := hid (HM1.out.kept K)
  replace HL1 := hid (HL1.out.kept K)
  replace HT2 := hid (HT2.out.kept K)
  clear K
  clear HM1 HL1 HTV HPR
  refine S_seg 14 17 (by kernel_rfl) (by decide) ?_
  simp only [List.take_succ_cons, List.take_zero, List.drop_zero, List.drop_succ_cons, Nat.sub_zero, Nat.reduceSub]
  go_wp2_with ((with_reducible apply W_stV (b := c) (o := 18) (v := tv2)); rfl; rfl; exact HT2.out.one; exact M.r1; exact size89; exact Nat.le_of_ble_eq_true (by kernel_rfl); intro wS K hr3; rw [show (chL [va2, wz, mv, rv, nilS, nilS, nilS, nilS, nilS, nilS, rt, .int .u8 2, .int .u8 0, .int .u8 1, lim, gv0, lf, pr, tv] (ad 240) z20).toArray.setIfInBounds 18 (tv2) = (chL [va2, wz, mv, rv, nilS, nilS, nilS, nilS, nilS, nilS, rt, .int .u8 2, .int .u8 0, .int .u8 1, lim, gv0, lf, pr, tv2] (ad 240) z20).toArray from by kernel_rfl] at hr3; replace HPW := hid (HPW.out.keptC K M.r1 (not_bytes_at (i := 4) (p := none) (n := 0) (m := 0) (by kernel_rfl)) wtype119); replace HRT := hid (HRT.out.keptC K M.r1 (not_bytes_at (i := 4) (p := none) (n := 0) (m := 0) (by kernel_rfl))); replace HUS := hid (HUS.out.keptC K M.r1 (not_bytes_at (i := 4) (p := none) (n := 0) (m := 0) (by kernel_rfl))); replace HBB := hid (HBB.out.keptC K M.r1 (not_bytes_at (i := 4) (p := none) (n := 0) (m := 0) (by kernel_rfl))); replace HAC2 := hid (HAC2.out.keptC K M.r1 (by decide)); replace HFE := hid (HFE.out.keptC K M.r1 (not_bytes_at (i := 4) (p := none) (n := 0) (m := 0) (by kernel_rfl))); replace HT2 := hid (HT2.out.keptC K M.r1 (not_bytes_at (i := 4) (p := none) (n := 0) (m := 0) (by kernel_rfl))); replace M := Mem.callPut (L1 := [(t2, _)]) M (Or.inl (by simp)) K hr3; clear K hr3; simp only [List.cons_append, List.nil_append] at M)
  refine S_done ?_
  go_wp2_with fail
  refine S_region (by kernel_rfl) ?_
  replace HPW := hid (HPW.out.kept (Kept.refl [] _).drew)
  replace HRT := hid (HRT.out.kept (Kept.refl [] _).drew)
  replace HUS := hid (HUS.out.kept (Kept.refl [] _).drew)
  replace HBB := hid (HBB.out.kept (Kept.refl [] _).drew)
  replace HAC2 := hid (HAC2.out.kept (Kept.refl [] _).drew)
  replace HFE := hid (HFE.out.kept (Kept.refl [] _).drew)
  replace HT2 := hid (HT2.out.kept (Kept.refl [] _).drew)
  refine E_stage 0 20 [0, 1, 2, 3, 4, 5, 6, 7, 8, 9, 10, 11, 12, 13, 14, 15, 18, 16, 17, 19] (by kernel_rfl) M.drew ?_
  clear M
  simp only [List.filterMap_cons, List.filterMap_nil, List.getElem?_cons_zero, List.getElem?_cons_succ]
  ((with_reducible apply E_run); rfl; rfl; (intro w M; go_simp; (try go_ints); (try simp only [↓IntWalk.iteOmega]); (try with_reducible rfl)); simp only [Act.put, List.setIfInBounds_toArray, List.set_cons_zero, List.set_cons_succ])
  ((with_reducible apply E_run); rfl; rfl; (intro w M; go_simp; (try go_ints); (try simp only [↓IntWalk.iteOmega]); (try with_reducible rfl)); simp only [Act.put, List.setIfInBounds_toArray, List.set_cons_zero, List.set_cons_succ])
  ((with_reducible apply E_run); rfl; rfl; (intro w M; go_simp; (try go_ints); (try simp only [↓IntWalk.iteOmega]); (try with_reducible rfl)); simp only [Act.put, List.setIfInBounds_toArray, List.set_cons_zero, List.set_cons_succ])
  ((with_reducible apply E_run); rfl; rfl; (intro w M; go_simp; (try go_ints); (try simp only [↓IntWalk.iteOmega]); (try with_reducible rfl)); simp only [Act.put, List.setIfInBounds_toArray, List.set_cons_zero, List.set_cons_succ])
  ((with_reducible apply E_run); rfl; rfl; (intro w M; go_simp; (try go_ints); (try simp only [↓IntWalk.iteOmega]); (try with_reducible rfl)); simp only [Act.put, List.setIfInBounds_toArray, List.set_cons_zero, List.set_cons_succ])
  ((with_reducible apply E_run); rfl; rfl; (intro w M; go_simp; (try go_ints); (try simp only [↓IntWalk.iteOmega]); (try with_reducible rfl)); simp only [Act.put, List.setIfInBounds_toArray, List.set_cons_zero, List.set_cons_succ])
  ((with_reducible apply E_run); rfl; rfl; (intro w M; go_simp; (try go_ints); (try simp only [↓IntWalk.iteOmega]); (try with_reducible rfl)); simp only [Act.put, List.setIfInBounds_toArray, List.set_cons_zero, List.set_cons_succ])
  ((with_reducible apply E_run (v := .agg ((ad 192).map n8).toArray)); rfl; rfl; (intro w M; exact run_loadX (n := 20) M.r1 rfl Salg.underlying45 rfl size45 (Nat.le_of_ble_eq_true (by kernel_rfl)) (show ((chL [va2, wz, mv, rv, nilS, nilS, nilS, nilS, nilS, nilS, rt, .int .u8 2, .int .u8 0, .int .u8 1, lim, gv0, lf, pr, tv2] (ad 240) z20).toArray).extract 59 (59 + 20) = _ by kernel_rfl)); simp only [Act.put, List.setIfInBounds_toArray, List.set_cons_zero, List.set_cons_succ])
  ((with_reducible apply E_run); rfl; rfl; (intro w M; go_simp; (try go_ints); (try simp only [↓IntWalk.iteOmega]); (try with_reducible rfl)); simp only [Act.put, List.setIfInBounds_toArray, List.set_cons_zero, List.set_cons_succ])
  ((with_reducible apply E_run); rfl; rfl; (intro w M; go_simp; (try go_ints); (try simp only [↓IntWalk.iteOmega]); (try with_reducible rfl)); simp only [Act.put, List.setIfInBounds_toArray, List.set_cons_zero, List.set_cons_succ])
  ((with_reducible apply E_run); rfl; rfl; (intro w M; go_simp; (try go_ints); (try simp only [↓IntWalk.iteOmega]); (try with_reducible rfl)); simp only [Act.put, List.setIfInBounds_toArray, List.set_cons_zero, List.set_cons_succ])
  ((with_reducible apply E_run); rfl; rfl; (intro w M; go_simp; (try go_ints); (try simp only [↓IntWalk.iteOmega]); (try with_reducible rfl)); simp only [Act.put, List.setIfInBounds_toArray, List.set_cons_zero, List.set_cons_succ])
  ((with_reducible apply E_run); rfl; rfl; (intro w M; go_simp; (try go_ints); (try simp only [↓IntWalk.iteOmega]); (try with_reducible rfl)); simp only [Act.put, List.setIfInBounds_toArray, List.set_cons_zero, List.set_cons_succ])
  ((with_reducible apply E_run); rfl; rfl; (intro w M; go_simp; (try go_ints); (try simp only [↓IntWalk.iteOmega]); (try with_reducible rfl)); simp only [Act.put, List.setIfInBounds_toArray, List.set_cons_zero, List.set_cons_succ])
  ((with_reducible apply E_run); rfl; rfl; (intro w M; go_simp; (try go_ints); (try simp only [↓IntWalk.iteOmega]); (try with_reducible rfl)); simp only [Act.put, List.setIfInBounds_toArray, List.set_cons_zero, List.set_cons_succ])
  ((with_reducible apply E_run (v := .agg ((ad 192).map n8).toArray)); rfl; rfl; (intro w M; exact run_loadX (n := 20) M.r1 rfl Salg.underlying45 rfl size45 (Nat.le_of_ble_eq_true (by kernel_rfl)) (show ((chL [va2, wz, mv, rv, nilS, nilS, nilS, nilS, nilS, nilS, rt, .int .u8 2, .int .u8 0, .int .u8 1, lim, gv0, lf, pr, tv2] (ad 240) z20).toArray).extract 59 (59 + 20) = _ by kernel_rfl)); simp only [Act.put, List.setIfInBounds_toArray, List.set_cons_zero, List.set_cons_succ])
  ((with_reducible apply E_run); rfl; rfl; (intro w M; go_simp; (try go_ints); (try simp only [↓IntWalk.iteOmega]); (try with_reducible rfl)); simp only [Act.put, List.setIfInBounds_toArray, List.set_cons_zero, List.set_cons_succ])
  refine E_call rfl Salg.func85 (by kernel_rfl) (by kernel_rfl) (args := [.pointer (some ⟨c, 0, none⟩), A8 (ad 192)]) rfl ?_
  intro w1 K M
  replace HPW := hid (HPW.out.kept K)
  replace HRT := hid (HRT.out.kept K)
  replace HUS := hid (HUS.out.kept K)
  replace HBB := hid (HBB.out.kept K)
  replace HAC2 := hid (HAC2.out.kept K)
  replace HFE := hid (HFE.out.kept K)
  replace HT2 := hid (HT2.out.kept K)
  clear K
  refine (account_miss c 119 _ _ nv bv cu sl nv2 bv2 cu2 nv3 bb _ M.r1 (show (chL [va2, wz, mv, rv, nilS, nilS, nilS, nilS, nilS, nilS, rt, .int .u8 2, .int .u8 0, .int .u8 1, lim, gv0, lf, pr, tv2] (ad 240) z20).toArray[0]? = some (va2) by kernel_rfl) HAC2.out).mono ?_
  rintro e w23 ⟨rfl, K⟩
  replace HPW := hid (HPW.out.kept K)
  replace HRT := hid (HRT.out.kept K)
  replace HUS := hid (HUS.out.kept K)
  replace HBB := hid (HBB.out.kept K)
  replace HAC2 := hid (HAC2.out.kept K)
  replace HFE := hid (HFE.out.kept K)
  replace HT2 := hid (HT2.out.kept K)
  replace M := M.call K
  refine ⟨_, rfl, trivial, M, ?_⟩
  clear K
  simp only [Act.put, List.setIfInBounds_toArray, List.set_cons_zero, List.set_cons_succ]
  ((with_reducible apply E_run (v := nilS)); rfl; rfl; (intro w M; kernel_rfl); simp only [Act.put, List.setIfInBounds_toArray, List.set_cons_zero, List.set_cons_succ])
  refine E_call rfl Salg.func68 (by kernel_rfl) (by kernel_rfl) (args := [nilS, fe]) rfl ?_
  intro w1 K M
  replace HPW := hid (HPW.out.kept K)
  replace HRT := hid (HRT.out.kept K)
  replace HUS := hid (HUS.out.kept K)
  replace HBB := hid (HBB.out.kept K)
  replace HAC2 := hid (HAC2.out.kept K)
  replace HFE := hid (HFE.out.kept K)
  replace HT2 := hid (HT2.out.kept K)
  clear K
  refine (add_num nilS fe 0 0 _ (nil_num _) HFE.out (by decide) (by decide)).mono ?_
  rintro e w24 ⟨cb, rfl, xHCB, K⟩
  have HCB := hid xHCB
  clear xHCB
  replace HPW := hid (HPW.out.kept K)
  replace HRT := hid (HRT.out.kept K)
  replace HUS := hid (HUS.out.kept K)
  replace HBB := hid (HBB.out.kept K)
  replace HAC2 := hid (HAC2.out.kept K)
  replace HFE := hid (HFE.out.kept K)
  replace HT2 := hid (HT2.out.kept K)
  replace M := M.call K
  refine ⟨_, rfl, trivial, M, ?_⟩
  clear K
  simp only [Act.put, List.setIfInBounds_toArray, List.set_cons_zero, List.set_cons_succ]
  refine E_nil ?_
  intro w25 K M
  replace HPW := hid (HPW.out.kept K)
  replace HRT := hid (HRT.out.kept K)
  replace HUS := hid (HUS.out.kept K)
  replace HBB := hid (HBB.out.kept K)
  replace HAC2 := hid (HAC2.out.kept K)
  replace HFE := hid (HFE.out.kept K)
  replace HT2 := hid (HT2.out.kept K)
  replace HCB := hid (HCB.out.kept K)
  clear K
  rw [Nat.add_zero] at HCB
  clear HFE
  refine S_seg 20 21 (by kernel_rfl) (by decide) ?_
  simp only [List.take_succ_cons, List.take_zero, List.drop_zero, List.drop_succ_cons, Nat.sub_zero, Nat.reduceSub]
  go_wp2_with fail
  refine (setBalance_miss c _ _ cb nv bv cu sl nv2 bv2 cu2 nv3 bb _ M.r1 (show (chL [va2, wz, mv, rv, nilS, nilS, nilS, nilS, nilS, nilS, rt, .int .u8 2, .int .u8 0, .int .u8 1, lim, gv0, lf, pr, tv2] (ad 240) z20).toArray[0]? = some (va2) by kernel_rfl) HAC2.out HCB.out).mono ?_
  rintro e w26 ⟨rr, va3, rfl, K, hr3, xA⟩
  rw [show (chL [va2, wz, mv, rv, nilS, nilS, nilS, nilS, nilS, nilS, rt, .int .u8 2, .int .u8 0, .int .u8 1, lim, gv0, lf, pr, tv2] (ad 240) z20).toArray.setIfInBounds 0 va3 = (chL [va3, wz, mv, rv, nilS, nilS, nilS, nilS, nilS, nilS, rt, .int .u8 2, .int .u8 0, .int .u8 1, lim, gv0, lf, pr, tv2] (ad 240) z20).toArray from by kernel_rfl] at hr3
  replace HPW := hid (HPW.out.keptC K M.r1 (not_bytes_at (i := 4) (p := none) (n := 0) (m := 0) (by kernel_rfl)) wtype119)
  replace HRT := hid (HRT.out.keptC K M.r1 (not_bytes_at (i := 4) (p := none) (n := 0) (m := 0) (by kernel_rfl)))
  replace HUS := hid (HUS.out.keptC K M.r1 (not_bytes_at (i := 4) (p := none) (n := 0) (m := 0) (by kernel_rfl)))
  replace HBB := hid (HBB.out.keptC K M.r1 (not_bytes_at (i := 4) (p := none) (n := 0) (m := 0) (by kernel_rfl)))
  replace HT2 := hid (HT2.out.keptC K M.r1 (not_bytes_at (i := 4) (p := none) (n := 0) (m := 0) (by kernel_rfl)))
  replace HCB := hid (HCB.out.keptC K M.r1 (not_bytes_at (i := 4) (p := none) (n := 0) (m := 0) (by kernel_rfl)))
  have HAC3 := hid xA
  replace M := Mem.callPut (L1 := [(t2, _)]) M (Or.inl (by simp)) K hr3
  clear K hr3 xA
  simp only [List.cons_append, List.nil_append] at M
  clear HAC2
  clear HCB
  go_wp2_with fail
  refine S_done ?_
  go_wp2_with fail
  replace HK : Hid (Kept [c] w w26) := ⟨M.kept.os.trans HK.out.os, M.kept.tape.trans HK.out.tape, M.kept.output.trans HK.out.output, Nat.le_trans HK.out.size M.kept.size, fun i hi hx => by
    rw [M.kept.block i (Nat.lt_of_lt_of_le hi HK.out.size) (by simp at hx ⊢; omega)]
    exact HK.out.block i hi hx⟩
  have hc := M.r1
  have ht2r := M.r0
  have hcw := lt_of_row hc
  have ht2w := lt_of_row ht2r
  clear M
  have M := Mem.start w26 []
  refine S_region (by kernel_rfl) ?_
  refine E_float 0 17 [0, 1, 2, 3, 4, 5, 6, 7, 9, 10, 11, 12, 13, 8, 14, 15] 16 8 _ (by kernel_rfl) ⟨⟨_, _, _, _, _, rfl, zero65, rfl⟩⟩ (by simp) M.drew ?_
  clear M
  simp only [List.filterMap_cons, List.filterMap_nil, List.getElem?_cons_zero, List.getElem?_cons_succ]
  ((with_reducible apply E_run); rfl; rfl; (intro w M; go_simp; (try go_ints); (try simp only [↓IntWalk.iteOmega]); (try with_reducible rfl)); simp only [Act.put, List.setIfInBounds_toArray, List.set_cons_zero, List.set_cons_succ])
  ((with_reducible apply E_run); rfl; rfl; (intro w M; go_simp; (try go_ints); (try simp only [↓IntWalk.iteOmega]); (try with_reducible rfl)); simp only [Act.put, List.setIfInBounds_toArray, List.set_cons_zero, List.set_cons_succ])
  ((with_reducible apply E_run); rfl; rfl; (intro w M; go_simp; (try go_ints); (try simp only [↓IntWalk.iteOmega]); (try with_reducible rfl)); simp only [Act.put, List.setIfInBounds_toArray, List.set_cons_zero, List.set_cons_succ])
  ((with_reducible apply E_run); rfl; rfl; (intro w M; exact run_loadCell (M.kept.row hc (by simp)) rfl (show (chL [va3, wz, mv, rv, nilS, nilS, nilS, nilS, nilS, nilS, rt, .int .u8 2, .int .u8 0, .int .u8 1, lim, gv0, lf, pr, tv2] (ad 240) z20).toArray[12]? = some (.int .u8 0) by kernel_rfl) Salg.underlying5 rfl); simp only [Act.put, List.setIfInBounds_toArray, List.set_cons_zero, List.set_cons_succ])
  ((with_reducible apply E_run); rfl; rfl; (intro w M; go_simp; (try go_ints); (try simp only [↓IntWalk.iteOmega]); (try with_reducible rfl)); simp only [Act.put, List.setIfInBounds_toArray, List.set_cons_zero, List.set_cons_succ])
  ((with_reducible apply E_run); rfl; rfl; (intro w M; go_simp; (try go_ints); (try simp only [↓IntWalk.iteOmega]); (try with_reducible rfl)); simp only [Act.put, List.setIfInBounds_toArray, List.set_cons_zero, List.set_cons_succ])
  ((with_reducible apply E_run); rfl; rfl; (intro w M; go_simp; (try go_ints); (try simp only [↓IntWalk.iteOmega]); (try with_reducible rfl)); simp only [Act.put, List.setIfInBounds_toArray, List.set_cons_zero, List.set_cons_succ])
  ((with_reducible apply E_run); rfl; rfl; (intro w M; exact run_loadCell (M.kept.row hc (by simp)) rfl (show (chL [va3, wz, mv, rv, nilS, nilS, nilS, nilS, nilS, nilS, rt, .int .u8 2, .int .u8 0, .int .u8 1, lim, gv0, lf, pr, tv2] (ad 240) z20).toArray[10]? = some (rt) by kernel_rfl) Salg.underlying40 rfl); simp only [Act.put, List.setIfInBounds_toArray, List.set_cons_zero, List.set_cons_succ])
  ((with_reducible apply E_run); rfl; rfl; (intro w M; go_simp; (try go_ints); (try simp only [↓IntWalk.iteOmega]); (try with_reducible rfl)); simp only [Act.put, List.setIfInBounds_toArray, List.set_cons_zero, List.set_cons_succ])
  ((with_reducible apply E_run); rfl; rfl; (intro w M; go_simp; (try go_ints); (try simp only [↓IntWalk.iteOmega]); (try with_reducible rfl)); simp only [Act.put, List.setIfInBounds_toArray, List.set_cons_zero, List.set_cons_succ])
  ((with_reducible apply E_run); rfl; rfl; (intro w M; go_simp; (try go_ints); (try simp only [↓IntWalk.iteOmega]); (try with_reducible rfl)); simp only [Act.put, List.setIfInBounds_toArray, List.set_cons_zero, List.set_cons_succ])
  ((with_reducible apply E_run); rfl; rfl; (intro w M; go_simp; (try go_ints); (try simp only [↓IntWalk.iteOmega]); (try with_reducible rfl)); simp only [Act.put, List.setIfInBounds_toArray, List.set_cons_zero, List.set_cons_succ])
  ((with_reducible apply E_run); rfl; rfl; (intro w M; exact run_loadCell (M.kept.row hc (by simp)) rfl (show (chL [va3, wz, mv, rv, nilS, nilS, nilS, nilS, nilS, nilS, rt, .int .u8 2, .int .u8 0, .int .u8 1, lim, gv0, lf, pr, tv2] (ad 240) z20).toArray[4]? = some (nilS) by kernel_rfl) Salg.underlying63 rfl); simp only [Act.put, List.setIfInBounds_toArray, List.set_cons_zero, List.set_cons_succ])
  refine E_call rfl Salg.func96 (by kernel_rfl) (by kernel_rfl) (args := [rt]) rfl ?_
  intro w1 K M
  clear K
  refine (bytesOf_all rt bs _ (HRT.out.kept M.kept)).mono ?_
  rintro e w51 ⟨ou, rfl, xHOU, K⟩
  have HOU := hid xHOU
  clear xHOU
  replace M := M.call K
  refine ⟨_, rfl, K.mono (by simp), M, ?_⟩
  clear K
  simp only [Act.put, List.setIfInBounds_toArray, List.set_cons_zero, List.set_cons_succ]
  refine E_call rfl Salg.func124 (by kernel_rfl) (by kernel_rfl) (args := [.slice none 0 0]) rfl ?_
  intro w1 K M
  replace HOU := hid (HOU.out.kept K)
  clear K
  refine (logsOf_nil _).mono ?_
  rintro e w52 ⟨rfl, hw⟩
  replace hw := hw.symm
  subst hw
  refine ⟨_, rfl, Kept.refl _ _, M, ?_⟩
  simp only [Act.put, List.setIfInBounds_toArray, List.set_cons_zero, List.set_cons_succ]
  ((with_reducible apply E_run (v := .agg (rcL (n64 0) ou).toArray)); rfl; rfl; (intro w M; obtain ⟨p0, q0, s0, e0⟩ := HOU.out.slice; subst e0; kernel_rfl); simp only [Act.put, List.setIfInBounds_toArray, List.set_cons_zero, List.set_cons_succ])
  refine E_nil ?_
  intro w53 K M
  replace HOU := hid (HOU.out.kept K)
  clear K
  intro t8 w54 K ht8 M
  replace HOU := hid (HOU.out.kept K)
  clear K
  simp only [Act.put, List.setIfInBounds_toArray, List.set_cons_zero, List.set_cons_succ]
  refine S_seg 17 18 (by kernel_rfl) (by decide) ?_
  simp only [List.take_succ_cons, List.take_zero, List.drop_zero, List.drop_succ_cons, Nat.sub_zero, Nat.reduceSub]
  have HO1 := hid (rcL_one (u := n64 0) rfl HOU.out.one)
  have HO2 := hid (rcL_one (u := n64 U) rfl HOU.out.one)
  have NB8 : ∀ u, Hid (∀ t l, Obj.cells (rcL u ou).toArray 65 (0, 0) ≠ R8 t l) := fun u => not_bytes_at (cs := (rcL u ou).toArray) (tc := 65) (i := 4) (p := none) (n := 0) (m := 0) (by kernel_rfl)
  have NB8' : Hid (∀ t l, Obj.cells (rcL (n64 0) nilS).toArray 65 (0, 0) ≠ R8 t l) := not_bytes_at (cs := (rcL (n64 0) nilS).toArray) (tc := 65) (i := 4) (p := none) (n := 0) (m := 0) (by kernel_rfl)
  go_wp2_with ((with_reducible apply W_storeK (b := t8) (vs := (rcL (n64 0) ou).toArray)); rfl; rfl; exact M.r0; exact size65; rfl; exact HO1.out; intro w55 K hr3; replace HOU := hid (HOU.out.keptC K M.r0 NB8'.out); replace M := Mem.callPut (L1 := []) M (Or.inr ht8) K hr3; clear K hr3; simp only [List.nil_append] at M)
  refine S_done ?_
  go_wp2_with fail
  refine (small_any us U _ (HUS.out.kept M.kept) (by omega)).mono ?_
  rintro e w56 ⟨rfl, hw⟩
  replace hw := hw.symm
  subst hw
  go_wp2_with (first
    | ((with_reducible apply W_stV (b := t8) (o := 2) (v := n64 U)); rfl; rfl; rfl; exact M.r0; exact size23; exact Nat.le_of_ble_eq_true (by kernel_rfl); intro w57 K hr3; rw [show (rcL (n64 0) ou).toArray.setIfInBounds 2 (n64 U) = (rcL (n64 U) ou).toArray from by kernel_rfl] at hr3; replace HOU := hid (HOU.out.keptC K M.r0 (NB8 _).out); replace M := Mem.callPut (L1 := []) M (Or.inr ht8) K hr3; clear K hr3; simp only [List.nil_append] at M)
    | ((with_reducible apply W_loadCell); rfl; exact M.kept.row hc (by simp); exact (show (chL [va3, wz, mv, rv, nilS, nilS, nilS, nilS, nilS, nilS, rt, .int .u8 2, .int .u8 0, .int .u8 1, lim, gv0, lf, pr, tv2] (ad 240) z20).toArray[12]? = some (.int .u8 0) by kernel_rfl); exact Salg.underlying5; rfl; simp only [Act.put, List.setIfInBounds_toArray, List.set_cons_zero, List.set_cons_succ])
    | ((with_reducible apply W_loadX (n := 20) (vs := (z20.map n8).toArray)); rfl; exact M.kept.row hc (by simp); exact Salg.underlying45; rfl; exact size45; exact Nat.le_of_ble_eq_true (by kernel_rfl); exact (show ((chL [va3, wz, mv, rv, nilS, nilS, nilS, nilS, nilS, nilS, rt, .int .u8 2, .int .u8 0, .int .u8 1, lim, gv0, lf, pr, tv2] (ad 240) z20).toArray).extract 39 (39 + 20) = _ by kernel_rfl); simp only [Act.put, List.setIfInBounds_toArray, List.set_cons_zero, List.set_cons_succ])
    | ((with_reducible apply W_stP (b := t8) (o := 5) (n := 20) (v := .agg (z20.map n8).toArray) (rs := (rcL (n64 U) ou).toArray)); rfl; rfl; exact M.r0; exact size45; kernel_rfl; exact oneL rfl; exact Nat.le_of_ble_eq_true (by kernel_rfl); kernel_rfl; intro w58 K hr3; replace HOU := hid (HOU.out.keptC K M.r0 (NB8 _).out); replace M := Mem.callPut (L1 := []) M (Or.inr ht8) K hr3; clear K hr3; simp only [List.nil_append] at M))
  refine (goes_nil c 119 _ _ (M.kept.row hc (by simp)) (show (chL [va3, wz, mv, rv, nilS, nilS, nilS, nilS, nilS, nilS, rt, .int .u8 2, .int .u8 0, .int .u8 1, lim, gv0, lf, pr, tv2] (ad 240) z20).toArray[7]? = some (nilS) by kernel_rfl)).mono ?_
  rintro e w59 ⟨rg, rfl, K⟩
  replace HOU := hid (HOU.out.kept K)
  replace M := M.call K
  clear K
  have HCO := hid (chM_one (own_one HAC3.out.own) y1 y2 y3 (fr := nilS) rfl HRT.out.one HLIO.out c8 HLFO.out HPRO.out HT2.out.one (ph := 2) (s := 0))
  have HVA1 := own_one HAC3.out.own
  have HTV1 := HT2.out.one
  have HCO2 : Hid (∀ x ∈ (chL [va3, nilS, nilS, nilS, nilS, nilS, nilS, nilS, nilS, nilS, nilS, .int .u8 0, .int .u8 0, .int .u8 1, nilS, nilS, nilS, nilS, tv2] z20 z20).toArray.toList, x.oneCell' = true) := (chL2_one HVA1 HTV1)
  have hct8 : c ≠ t8 := by omega
  have ht28 : t2 ≠ t8 := by omega
  have MZ := M
  obtain ⟨pa, na, ca, rfl⟩ := own_slice HAC3.out.own
  obtain ⟨pb, nb, cb2, rfl⟩ := HT2.out.slice
  have M := MZ
  clear MZ
  go_wp2_with (first
    | ((with_reducible apply W_loadAll); rfl; exact M.kept.row hc (by simp); exact Salg.underlying117; rfl; exact size117; simp only [Act.put, List.setIfInBounds_toArray, List.set_cons_zero, List.set_cons_succ])
    | ((with_reducible apply L_allocN (d := 9) M); exact zero117; clear M; intro t9 w60 ht9 ht9N K9 M; replace HOU := hid (HOU.out.kept K9); clear K9; simp only [Act.put, List.setIfInBounds_toArray, List.set_cons_zero, List.set_cons_succ])
    | ((with_reducible apply W_storeK (b := t9) (vs := (chL [(Value.slice pa na ca), wz, mv, rv, nilS, nilS, nilS, nilS, nilS, nilS, rt, .int .u8 2, .int .u8 0, .int .u8 1, lim, gv0, lf, pr, (Value.slice pb nb cb2)] (ad 240) z20).toArray)); rfl; rfl; exact M.r0; exact size117; rfl; exact HCO.out; intro w61 K hr3; replace HOU := hid (HOU.out.keptC K M.r0 (not_bytes_at (cs := zch.toArray) (tc := 117) (i := 4) (p := none) (n := 0) (m := 0) (by kernel_rfl))); replace M := Mem.callPut (L1 := []) M (Or.inr ht9) K hr3; clear K hr3; simp only [List.nil_append] at M; have h8r := M.r1; have HKM := hid M.kept)
    | ((with_reducible apply W_loadCell); rfl; exact M.r0; exact (show (chL [(Value.slice pa na ca), wz, mv, rv, nilS, nilS, nilS, nilS, nilS, nilS, rt, .int .u8 2, .int .u8 0, .int .u8 1, lim, gv0, lf, pr, (Value.slice pb nb cb2)] (ad 240) z20).toArray[0]? = some (Value.slice pa na ca) by kernel_rfl); exact Salg.underlying108; rfl; simp only [Act.put, List.setIfInBounds_toArray, List.set_cons_zero, List.set_cons_succ])
    | ((with_reducible apply W_loadCell); rfl; exact M.r0; exact (show (chL [(Value.slice pa na ca), wz, mv, rv, nilS, nilS, nilS, nilS, nilS, nilS, rt, .int .u8 2, .int .u8 0, .int .u8 1, lim, gv0, lf, pr, (Value.slice pb nb cb2)] (ad 240) z20).toArray[13]? = some (.int .u8 1) by kernel_rfl); exact Salg.underlying5; rfl; simp only [Act.put, List.setIfInBounds_toArray, List.set_cons_zero, List.set_cons_succ])
    | ((with_reducible apply W_loadCell); rfl; exact M.r0; exact (show (chL [(Value.slice pa na ca), wz, mv, rv, nilS, nilS, nilS, nilS, nilS, nilS, rt, .int .u8 2, .int .u8 0, .int .u8 1, lim, gv0, lf, pr, (Value.slice pb nb cb2)] (ad 240) z20).toArray[18]? = some (Value.slice pb nb cb2) by kernel_rfl); exact Salg.underlying89; rfl; simp only [Act.put, List.setIfInBounds_toArray, List.set_cons_zero, List.set_cons_succ])
    | ((with_reducible apply W_loadX (n := 120) (vs := envL.toArray)); rfl; exact M.r0; exact Salg.underlying106; rfl; exact size106; exact Nat.le_of_ble_eq_true (by kernel_rfl); kernel_rfl; simp only [Act.put, List.setIfInBounds_toArray, List.set_cons_zero, List.set_cons_succ])
    | ((with_reducible apply W_buildV (d := 154) (v := .agg (wrow4 (Value.slice pa na ca) nilS nilS nilS).toArray)); kernel_rfl; simp only [Act.put, List.setIfInBounds_toArray, List.set_cons_zero, List.set_cons_succ])
    | ((with_reducible apply W_buildV (d := 161) (v := .agg (chL [(Value.slice pa na ca), nilS, nilS, nilS, nilS, nilS, nilS, nilS, nilS, nilS, nilS, .int .u8 0, .int .u8 0, .int .u8 1, nilS, nilS, nilS, nilS, (Value.slice pb nb cb2)] z20 z20).toArray)); kernel_rfl; simp only [Act.put, List.setIfInBounds_toArray, List.set_cons_zero, List.set_cons_succ])
    | ((with_reducible apply W_storeK (b := c) (vs := (chL [(Value.slice pa na ca), nilS, nilS, nilS, nilS, nilS, nilS, nilS, nilS, nilS, nilS, .int .u8 0, .int .u8 0, .int .u8 1, nilS, nilS, nilS, nilS, (Value.slice pb nb cb2)] z20 z20).toArray)); rfl; rfl; exact M.kept.row hc (by simp); exact size117; rfl; exact HCO2.out; intro w62 KC hrc)
    | ((with_reducible apply W_loadAll (cs := (rcL (n64 U) ou).toArray)); rfl; exact KC.row h8r (by simp; omega); exact Salg.underlying65; rfl; exact size65; simp only [Act.put, List.setIfInBounds_toArray, List.set_cons_zero, List.set_cons_succ])
    | ((with_reducible apply W_storeK (b := t2) (vs := (rcL (n64 U) ou).toArray)); rfl; rfl; exact KC.row (HKM.out.row ht2r (by simp)) (by simp; omega); exact size65; rfl; exact HO2.out; intro w63 KT hrt))
  refine ret_cell1 Salg.results28 rfl hrt Salg.underlying65 rfl size65 rfl ?_
  have hrc2 := KT.row hrc (by simp; omega)
  have hc0 := HKM.out.row hc (by simp)
  have ht0 := KC.row (HKM.out.row ht2r (by simp)) (by simp; omega)
  have nbc : ∀ t l, Obj.cells (chL [(Value.slice pa na ca), wz, mv, rv, nilS, nilS, nilS, nilS, nilS, nilS, rt, .int .u8 2, .int .u8 0, .int .u8 1, lim, gv0, lf, pr, (Value.slice pb nb cb2)] (ad 240) z20).toArray 119 (0, 0) ≠ R8 t l := (not_bytes_at (i := 4) (p := none) (n := 0) (m := 0) (by kernel_rfl))
  refine ⟨ou, U, _, _, nv, bv, cu, sl, nv2, bv2, cu2, nv3, bb, rfl, (HOU.out.keptC KC hc0 nbc).keptC KT ht0 NB8'.out, hrc2, rfl, ((HAC3.out.kept HKM.out).keptC KC hc0 (by decide)).keptC KT ht0 (by decide), ((HPW.out.kept HKM.out).keptC KC hc0 nbc wtype119).keptC KT ht0 NB8'.out wtype65, ((HBB.out.kept HKM.out).keptC KC hc0 nbc).keptC KT ht0 NB8'.out, ?_⟩
  refine ⟨KT.os.trans (KC.os.trans (HKM.out.os.trans HK.out.os)), KT.tape.trans (KC.tape.trans (HKM.out.tape.trans HK.out.tape)), KT.output.trans (KC.output.trans (HKM.out.output.trans HK.out.output)), Nat.le_trans HK.out.size (Nat.le_trans HKM.out.size (Nat.le_trans KC.size KT.size)), fun i hi hx => ?_⟩
  have i1 := Nat.lt_of_lt_of_le hi HK.out.size
  have i2 := Nat.lt_of_lt_of_le i1 HKM.out.size
  have i3 := Nat.lt_of_lt_of_le i2 KC.size
  rw [KT.block i i3 (by simp; omega), KC.block i i2 (by simp at hx ⊢; exact hx), HKM.out.block i i1 (by simp), HK.out.block i hi hx]
end Go.Proofs.YgcsalGreat

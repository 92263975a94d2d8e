/-
  The step CALL, and the callee's RETURN.
-/
import Derived.Test.YgcsalGreatCp22
set_option linter.unusedSimpArgs false
set_option linter.unusedVariables false
namespace Go.Own
section
variable {wB : World} {c fbB : Nat} {E : CEnv} {S : List Nat} {rr fb q n cap : Nat} {fs0 : Array Value} {m G : Nat} {ns : List Nat} {mv : Value} {mem : List Nat} {W : Nat} {rt rt' : Value} {rd rd' : List Nat} {la la' : List (List Nat)} {w w' w1 : World}
theorem StM.chainR (h : StM wB c fbB E S rr fb q n cap fs0 m G ns mv mem W rt rd la w) (K : Kept [c] w w') (hC : ChX w' c E (.slice (some ⟨fb, 0, none⟩) n cap) rt' la') (hrt : NatS S w' rt' rd') : StM wB c fbB E S rr fb q n cap fs0 m G ns mv mem W rt' rd' la' w' := by
  obtain ⟨cs, c1, c9, c10, c11, cn⟩ := h.ch.row
  exact ⟨h.k.trans (K.mono (by simp)), h.b, hC, h.fr.keptC K c1 cn (by decide) (by decide), h.mm.keptC K c1 cn, h.sm, h.len, h.wle, hrt, fun b hb => Nat.lt_of_lt_of_le (h.sl b hb) K.size⟩
end
/-- What is known where a callee begins (CALL). -/
structure CallS (wB : World) (c fbB : Nat) (E : CEnv) (fb cap : Nat) (cur fs0 : Array Value) (mb W : Nat) (mem : List Nat) (pv gv sv r6 r7 cw sg vn iu a0 a1 a2 a3 : Value) (m G1 G2 OA ON : Nat) (dd ds1 ds2 : List Nat) (la : List (List Nat)) (w : World) : Prop where
  k : Kept [c, fbB] wB w
  b : fb = fbB ∨ wB.heap.size ≤ fb
  ch : ChS w c E (.slice (some ⟨fb, 0, none⟩) 2 cap) nilS la ds1 ds2
  row : w.heap[fb]? = some (.cells cur 142 (0, 0))
  same : ∀ k, k < 60 → k ≠ 3 → k ≠ 4 → k ≠ 6 → k ≠ 7 → k ≠ 8 → k ≠ 9 → cur[k]? = fs0[k]?
  c3 : cur[3]? = some pv
  c4 : cur[4]? = some gv
  c6 : cur[6]? = some r6
  c7 : cur[7]? = some r7
  c8 : cur[8]? = some sv
  c9 : cur[9]? = some (.slice (some ⟨mb, 0, none⟩) mem.length mem.length)
  off : LieOff [mb] pv
  parts : PartsV w pv gv sv [] m G1 []
  n6 : NumV w r6 OA
  n7 : NumV w r7 ON
  inn : ∀ k, k < 60 → cur[60 + k]? = (frX sg vn cw iu (wrow4 a0 a1 a2 a3))[k]?
  nsg : NumV w sg G2
  nvn : NumV w vn 0
  ncw : NatV w cw ds2
  niu : NatV w iu dd
  size : cur.size = cap * 60
  cap2 : 2 ≤ cap
  capM : cap ≤ maxLen
  one : a0.oneCell' = true ∧ a1.oneCell' = true ∧ a2.oneCell' = true ∧ a3.oneCell' = true
  mrow : w.heap[mb]? = some (R8 5 mem)
  mnew : wB.heap.size ≤ mb
  sm : Small mem
  len : mem.length = 32 * W
  wle : W ≤ 20
  pos : 0 < mem.length
theorem CallS.hard {wB : World} {c fbB : Nat} {E : CEnv} {fb cap : Nat} {cur fs0 : Array Value} {mb W : Nat} {mem : List Nat} {pv gv sv r6 r7 cw sg vn iu a0 a1 a2 a3 : Value} {m G1 G2 OA ON : Nat} {dd ds1 ds2 : List Nat} {la : List (List Nat)} {w : World} (h : CallS wB c fbB E fb cap cur fs0 mb W mem pv gv sv r6 r7 cw sg vn iu a0 a1 a2 a3 m G1 G2 OA ON dd ds1 ds2 la w) : Hard [c, fb] w := by
  obtain ⟨cs, c1, _, _, _, cn⟩ := h.ch.ch.row
  intro x hx
  simp only [List.mem_cons, List.mem_singleton, List.not_mem_nil, or_false] at hx
  rcases hx with rfl | rfl
  · exact ⟨cs, 119, c1, .inl rfl, cn⟩
  · exact ⟨cur, 142, h.row, .inr rfl, not_bytes_at (tc := 142) h.c9⟩
theorem CallS.start {wB : World} {c fbB : Nat} {E : CEnv} {fb cap : Nat} {cur fs0 : Array Value} {mb W : Nat} {mem : List Nat} {pv gv sv r6 r7 cw sg vn iu a0 a1 a2 a3 : Value} {m G1 G2 OA ON : Nat} {dd ds1 ds2 : List Nat} {la : List (List Nat)} {w : World} (h : CallS wB c fbB E fb cap cur fs0 mb W mem pv gv sv r6 r7 cw sg vn iu a0 a1 a2 a3 m G1 G2 OA ON dd ds1 ds2 la w) : StE w c fb E 0 fb 60 2 cap cur 0 G2 [] [] 0 nilS [] la w ∧ FrD cur 60 cw ∧ cur[60 + 11]? = some iu := by
  have e := h.inn
  refine ⟨⟨[], nilS, Kept.refl _ _, .inl rfl, h.ch.ch, ⟨cur, nilS, sg, nilS, [], h.row, rfl, fun _ _ _ _ _ => rfl, e 3 (by decide), nil_numS _ _, e 4 (by decide), h.nsg.off (by simp), e 8 (by decide), .inl ⟨rfl, rfl⟩, ⟨rfl, fun k v n e => by simp at e⟩, e 9 (by decide), fun j v n hj => by omega⟩, .inl ⟨rfl, rfl⟩, (by intro x hx; cases hx), rfl, by decide, natS_nil _ _, by simp⟩, ⟨e 1 (by decide), e 2 (by decide), e 10 (by decide), ?_⟩, e 11 (by decide)⟩
  rw [h.size]
  have := h.cap2
  omega
end Go.Own
namespace Go.Proofs.YgcsalGreat
open Go.RowKit Go.Own
theorem stepX_call1 {wB : World} {c fbB : Nat} {E : CEnv} {rr fb cap : Nat} {fs0 : Array Value} {m G : Nat} {mem : List Nat} {W : Nat} {rt : Value} {rd : List Nat} {la : List (List Nat)} {w : World} {cv : Value} {ds : List Nat} (ON OO IN IA A : Nat) (ds1 ds2 : List Nat) (hE : StE wB c fbB E rr fb 0 1 cap fs0 m G ([] ++ [ON, OO, IN, IA, 0, 2, A]) mem W rt rd la w) (hH : Hard [c, fbB] wB) (hcv : NatV wB cv ds) (hfc : FrD fs0 0 cv) (hm : ds[m]? = some 241) (hl : ds.length ≤ 1000) (hm1 : m ≤ 900) (hkG : (2600 + growC W (max (endN IA IN) (endN OO ON))) ≤ G) (hG : G ≤ 1000000) (hrr2 : rr ≤ ([] ++ [ON, OO, IN, IA, 0, 2, A]).length) (hIO : IA ≤ 300) (hIN : IN ≤ 300) (hOO : OO ≤ 300) (hON : ON ≤ 300) (h00 : 0 < mem.length) (hSt : StatW wB E ds1 ds2) (hn2 : ad 2 ∉ la) (hla : la.length ≤ 15) (hl0 : 0 < (adWith la (ad 2)).length) (hl2 : (adWith la (ad 2)).length ≤ 20) (hse : fs0.extract 12 (12 + 20) = ((ad 1).map n8).toArray) (hsz : fs0.size = cap * 60) (hcap : cap ≤ maxLen) (hc1 : 1 ≤ cap) (hG6 : G < 1000000) :
    Calls Salg.prog 27 #[.pointer (some ⟨c, 0, none⟩)] w fun e w' => e = .returned (.bool true) ∧ ∃ (fb' cap' : Nat) (cur : Array Value) (mb : Nat) (pv gv sv r6 r7 cw sg vn iu a0 a1 a2 a3 : Value), CallS wB c fbB E fb' cap' cur fs0 mb (max W (wds (max (endN IA IN) (endN OO ON)))) (growB mem (max (endN IA IN) (endN OO ON))) pv gv sv r6 r7 cw sg vn iu a0 a1 a2 a3 m ((G - (2600 + growC W (max (endN IA IN) (endN OO ON)))) - min A ((G - (2600 + growC W (max (endN IA IN) (endN OO ON)))) - (G - (2600 + growC W (max (endN IA IN) (endN OO ON)))) / 64)) (min A ((G - (2600 + growC W (max (endN IA IN) (endN OO ON)))) - (G - (2600 + growC W (max (endN IA IN) (endN OO ON)))) / 64)) (outAt ON OO) ON (cutB (growB mem (max (endN IA IN) (endN OO ON))) IA IN) ds1 ds2 (adWith la (ad 2)) w' := by
  obtain ⟨S, mv, hS⟩ := hE
  obtain ⟨cs, c1, c9, c10, c11, cn⟩ := hS.ch.row
  obtain ⟨mp, mc, em⟩ := hS.mm.cell
  have hG2 : G < 256 ^ 100 := Nat.lt_of_le_of_lt hG (by decide)
  have hcw := hcv.keptN hS.k hH
  have hwle := hS.wle
  have hUb : max (endN IA IN) (endN OO ON) ≤ 640 := (by have := endN_le IA IN; have := endN_le OO ON; omega)
  refine stepM_enter1 S rr c fb m G (2600 + growC W (max (endN IA IN) (endN OO ON))) (max (endN IA IN) (endN OO ON)) 16 0 0 0 241 cs fs0 cap _ cv mv ds (fun w' => StE wB c fbB E rr fb 0 1 cap fs0 m (G - (2600 + growC W (max (endN IA IN) (endN OO ON)))) ([] ++ [ON, OO, IN, IA, 0, 2, A]) (growB mem (max (endN IA IN) (endN OO ON))) (max W (wds (max (endN IA IN) (endN OO ON)))) rt rd la w') _ (fun _ _ => True) w (by decide) c1 c9 c11 hS.sl hS.fr hcw hm hl hfc hkG (Nat.lt_of_lt_of_le hG2 (by decide)) ?_ ?_ ?_ family_call rfl ?_
  · intro w' K1
    have hF := hS.fr.kept K1
    refine refusalD_call _ fb 0 m G _ fs0 cv _ _ w' hF.toQ hfc (by simp) (by simp) hkG fun w1 K2 => ?_
    have hF1 := hF.kept K2
    obtain ⟨fs, f1, _, _, f9, _⟩ := hF1.row
    rw [em] at f9
    refine costM_any _ fb 0 241 (2600) (max (endN IA IN) (endN OO ON)) mem.length W fs mp mc w1 f1 f9 (by decide) hS.len (by omega) (by omega) (fun w2 K3 => ?_) (fun w2 K3 => ?_)
    · have hF2 := (hF1.kept K3).toQ
      refine bareCost_call _ _ _ w2 (enterCost_call c 2600 ON OO IN IA A fb 0 m G fs0 _ [] w2 hF2 (by simp) (fun w3 K4 => access_X c 2 E _ rt la w3 ((hS.ch.kept K1).kept ((K2.trans K3).trans K4)) (by decide) hn2))
    · have hF2 := (hF1.kept K3).toQ
      exact reach_call ON OO IN IA 0 A fb 0 m G fs0 _ [] w2 hF2 (by simp) (by omega) (by omega) (by omega) (by omega)
  · intro w' K1 hF
    exact reach_call ON OO IN IA 0 A fb 0 m (G - (2600 + growC W (max (endN IA IN) (endN OO ON)))) fs0 _ [] w' hF.toQ (by simp) (by omega) (by omega) (by omega) (by omega)
  · intro w' r K1 hF hr
    exact grow_S (max (endN IA IN) (endN OO ON)) r (hS.frame K1 hF) hr (by omega) hrr2
  · rintro w' K1 ⟨S', mv', hS2⟩
    have h0 : 0 < (growB mem (max (endN IA IN) (endN OO ON))).length := by rw [growB_length hS.len]; have := hS.len; omega
    obtain ⟨mb, rfl, hmb, rfl, hBm⟩ := hS2.memRow h0
    obtain ⟨wz, x1, x2⟩ := hS2.ch
    refine enters_X c fb 0 _ w' _ x1 (Nat.le_of_ble_eq_true (by kernel_rfl)) fun w'' K2 hrow => ?_
    rw [show (chM E.vz wz nilS nilS (.slice (some ⟨fb, 0, none⟩) 1 cap) rt 1 0 E.lim E.gv nilS E.pr E.tv).setIfInBounds 10 nilS = chM E.vz wz nilS nilS (.slice (some ⟨fb, 0, none⟩) 1 cap) nilS 1 0 E.lim E.gv nilS E.pr E.tv from by kernel_rfl] at hrow
    have hS3 := hS2.chainR (rt' := nilS) (rd' := []) (la' := la) K2 ⟨wz, hrow, x2.keptC K2 x1 (by decide)⟩ (natS_nil _ _)
    have hln := hS3.len
    have hw3 := hS3.wle
    have hmb3 : w''.heap[mb]? = some (R8 5 (growB mem (max (endN IA IN) (endN OO ON)))) := by
      obtain ⟨mb', q1, q2, _⟩ := hS3.memRow h0
      cases q1
      exact q2
    have hgl : (G - (2600 + growC W (max (endN IA IN) (endN OO ON)))) ≤ G := Nat.sub_le _ _
    refine (enterCall_X [mb] rr c fb cap m (G - (2600 + growC W (max (endN IA IN) (endN OO ON)))) A ON OO IN IA E fs0 cv _ nilS [] (growB mem (max (endN IA IN) (endN OO ON))) la ds1 ds2 w'' ⟨hS3.ch, hSt.keptN hS3.k hH⟩ hS3.fr hfc hse (hS3.mm.nat hS3.sm (by omega)) (by omega) (by omega) (by simp) (by omega) hl0 hla hl2 hsz hcap hc1 (by omega)).mono ?_
    rintro e w3 ⟨r, fb', cap', cur, pv, gv, sv, r6, r7, cw, sg, vn, iu, a0, a1, a2, a3, xs, rfl, y1, y2, y3, y4, y5, y6, y7, y8, y9, ya, yo, yb, yc, yd, ye, yf, yg, yh, yi, yj, yk, yl, ym, yn, yp⟩
    have hxs : xs = [] := List.eq_nil_of_length_eq_zero yb.n.1
    subst hxs
    obtain ⟨fs, f1, _, _, f9, fn⟩ := hS3.fr.row
    have hmf : mb ∉ [c, fb] := by
      intro hx
      simp only [List.mem_cons, List.mem_singleton, List.not_mem_nil, or_false] at hx
      rcases hx with hx | hx
      · rw [← hx, hmb3] at hrow
        exact chx_nb E wz _ _ _ _ (Option.some.inj hrow).symm
      · rw [← hx, hmb3] at f1
        exact fn _ _ (Option.some.inj f1).symm
    refine ⟨r, rfl, fb', cap', cur, mb, pv, gv, sv, r6, r7, cw, sg, vn, iu, a0, a1, a2, a3, ⟨?_, ?_, y1, y2, y4, y5, y6, y7, y8, y9, ya, yo, yb, yc, yd, ye, yf, yg, yh, yi, yj, yl, yk, WorldW.one ym, yp.row hmb3 hmf, hBm, hS3.sm, hln, hw3, h0⟩⟩
    · refine ⟨yp.os.trans hS3.k.os, yp.tape.trans hS3.k.tape, yp.output.trans hS3.k.output, Nat.le_trans hS3.k.size yp.size, fun i hi hx => ?_⟩
      rw [yp.block i (Nat.lt_of_lt_of_le hi hS3.k.size) ?_]
      · exact hS3.k.block i hi hx
      · simp at hx ⊢
        rcases hS3.b with hb | hb
        · rw [hb]
          exact hx
        · exact ⟨hx.1, by omega⟩
    · rcases y3 with h | h
      · rw [h]
        exact hS3.b
      · exact .inr (Nat.le_trans hS3.k.size h)
end Go.Proofs.YgcsalGreat

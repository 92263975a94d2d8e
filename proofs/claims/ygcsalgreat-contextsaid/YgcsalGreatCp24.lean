/-
  The callee's RETURN: its output goes to the caller's memory.
-/
import Derived.Test.YgcsalGreatCp23
set_option linter.unusedSimpArgs false
set_option linter.unusedVariables false
namespace Go.Own
theorem PartsV.keptN {X : List Nat} {w w' : World} {pv gv sv : Value} {m G : Nat} (h : PartsV w pv gv sv [] m G []) (k : Kept X w w') (hX : Hard X w) : PartsV w' pv gv sv [] m G [] := ⟨h.p.keptN k hX, h.g.keptN k hX, h.s.keptN k hX, ⟨rfl, fun k v n e => by simp at e⟩⟩
end Go.Own
namespace Go.Proofs.YgcsalGreat
open Go.RowKit Go.Own
theorem leaveX_in (c fb cap m1 G1 m2 G2 ON OA mb L : Nat) (cur : Array Value) (ns2 : List Nat) (la : List (List Nat)) (E : CEnv) (rt pv1 gv1 sv1 r6 r7 sg vn cw iu a0 a1 a2 a3 mv2 out : Value) (mem bs : List Nat) (w : World) (hC : ChX w c E (.slice (some ⟨fb, 0, none⟩) 2 cap) rt la) (hF : FrameQ w fb 60 cur m2 G2 ns2 mv2) (hcur : ∀ k, k < 60 → cur[60 + k]? = (frX sg vn cw iu (wrow4 a0 a1 a2 a3))[k]?) (hone : ∀ u ∈ (frX sg vn cw iu (wrow4 a0 a1 a2 a3)), u.oneCell' = true) (hP : PartsV w pv1 gv1 sv1 [] m1 G1 []) (hoff : LieOff [mb] pv1) (p3 : cur[3]? = some pv1) (p4 : cur[4]? = some gv1) (p6 : cur[6]? = some r6) (p7 : cur[7]? = some r7) (p8 : cur[8]? = some sv1) (p9 : cur[9]? = some (.slice (some ⟨mb, 0, none⟩) L L)) (h6' : NumV w r6 OA) (h7' : NumV w r7 ON) (hmb : w.heap[mb]? = some (R8 5 mem)) (hL : mem.length = L) (hLL : L ≤ 10000) (hout : NatV w out bs) (hsz : cur.size = cap * 60) (hcap : 2 ≤ cap) (hcap2 : cap ≤ maxLen) (hm : m1 ≤ 900) (hG1 : G1 < 256 ^ 100) (hG2 : G2 < 256 ^ 100) (o4 : mv2.oneCell' = true) (hON : ON ≤ 1000) (hbl : bs.length ≤ 1000) (hfit : OA + min ON bs.length ≤ L) (hmo : ∀ b, out.ownBlock = some b → b ≠ mb) :
    Calls Salg.prog 112 #[.pointer (some ⟨c, 0, none⟩), .int .u8 0, out] w fun e w' => ∃ (r : Value) (fs1 : Array Value), e = .returned r ∧ ChX w' c E (.slice (some ⟨fb, 0, none⟩) 1 1) out la ∧ FrameM [mb] 1 w' fb 0 fs1 (m1 + 1) (G1 + G2) [1] (.slice (some ⟨mb, 0, none⟩) L L) ∧ (∀ k, k < 60 → fs1[k]? = cur[k]?) ∧ fs1.size = cur.size ∧ w'.heap[mb]? = some (R8 5 (wrB mem OA (bs.take (min ON bs.length)))) ∧ NatV w' out bs ∧ Kept [c, fb, mb] w w' := by
  by_cases h0 : min ON bs.length = 0
  · rw [h0, List.take_zero, wrB_nil]
    exact leaveX_in_none c fb cap m1 G1 m2 G2 ON OA mb L 0 cur ns2 la E rt pv1 gv1 sv1 r6 r7 sg vn cw iu a0 a1 a2 a3 mv2 out mem bs w hC hF hcur hone hP hoff p3 p4 p6 p7 p8 p9 h6' h7' hmb hL hLL hout hsz hcap hcap2 hm hG1 hG2 o4 hON hbl h0
  · exact leaveX_in_some c fb cap m1 G1 m2 G2 ON OA mb L (min ON bs.length) cur ns2 la E rt pv1 gv1 sv1 r6 r7 sg vn cw iu a0 a1 a2 a3 mv2 out mem bs w hC hF hcur hone hP hoff p3 p4 p6 p7 p8 p9 h6' h7' hmb hL hLL hout hsz hcap hcap2 hm hG1 hG2 o4 hON hbl rfl (by omega) hfit hmo
theorem stepX_return2 {wB : World} {c fbB : Nat} {E : CEnv} {fb cap : Nat} {cur fs0 : Array Value} {mb W1 : Nat} {mem1 : List Nat} {pv gv sv r6 r7 cw sg vn iu a0 a1 a2 a3 : Value} {m1 G1 G0 OA ON : Nat} {dd ds1 ds2 : List Nat} {la : List (List Nat)} {wC w : World} {rr m G : Nat} {mem : List Nat} {W : Nat} {rt : Value} {rd : List Nat} (N O : Nat) (hC : CallS wB c fbB E fb cap cur fs0 mb W1 mem1 pv gv sv r6 r7 cw sg vn iu a0 a1 a2 a3 m1 G1 G0 OA ON dd ds1 ds2 la wC) (hE : StE wC c fb E rr fb 60 2 cap cur m G ([] ++ [N, O]) mem W rt rd la w) (hm : ds2[m]? = some 243) (hl : ds2.length ≤ 1000) (hm1 : m ≤ 900) (hkG : (0 + growC W (endN O N)) ≤ G) (hG : G ≤ 1000000) (hrr2 : rr ≤ ([] ++ [N, O]).length) (hO : O ≤ 300) (hN : N ≤ 300) (hON : ON ≤ 300) (hfit : OA + min ON N ≤ mem1.length) (hm2 : m1 ≤ 900) (hG1 : G1 ≤ 1000000) :
    Calls Salg.prog 27 #[.pointer (some ⟨c, 0, none⟩)] w fun e w' => e = .returned (.bool true) ∧ ∃ (fs1 : Array Value) (rt' : Value), StE wB c fbB E 1 fb 0 1 1 fs1 (m1 + 1) (G1 + (G - (0 + growC W (endN O N)))) [1] (wrB mem1 OA ((cutB (growB mem (endN O N)) O N).take (min ON N))) W1 rt' (cutB (growB mem (endN O N)) O N) la w' ∧ (∀ k, k < 60 → fs1[k]? = cur[k]?) ∧ fs1.size = cur.size := by
  obtain ⟨S, mv, hS⟩ := hE
  have hH := hC.hard
  obtain ⟨_, hfc, _⟩ := hC.start
  obtain ⟨cs, c1, c9, c10, c11, cn⟩ := hS.ch.row
  obtain ⟨mp, mc, em⟩ := hS.mm.cell
  have hG2 : G < 256 ^ 100 := Nat.lt_of_le_of_lt hG (by decide)
  have hcw := hC.ncw.keptN hS.k hH
  have hwle := hS.wle
  have hUb : endN O N ≤ 640 := (by have := endN_le O N; omega)
  refine stepM_return2 S rr c fb m G (0 + growC W (endN O N)) (endN O N) 0 0 O N cs cur cap _ cw mv ds2 (fun w' => StE wC c fb E rr fb 60 2 cap cur m (G - (0 + growC W (endN O N))) ([] ++ [N, O]) (growB mem (endN O N)) (max W (wds (endN O N))) rt rd la w') _ (fun u w' => NatV w' u (cutB (growB mem (endN O N)) O N) ∧ (∀ b, u.ownBlock = some b → wC.heap.size ≤ b) ∧ StE wC c fb E rr fb 60 2 cap cur m (G - (0 + growC W (endN O N))) ([] ++ [N, O]) (growB mem (endN O N)) (max W (wds (endN O N))) rt rd la w') w c1 c9 c11 hS.sl hS.fr hcw hm hl hfc hkG (Nat.lt_of_lt_of_le hG2 (by decide)) ?_ ?_ ?_ ?_ ?_ ?_ ?_
  · intro w' K1
    have hF := hS.fr.kept K1
    refine refusalD_return _ fb 60 m G _ cur cw _ _ w' hF.toQ hfc (by simp) (by simp) hkG fun w1 K2 => ?_
    have hF1 := hF.kept K2
    obtain ⟨fs, f1, _, _, f9, _⟩ := hF1.row
    rw [em] at f9
    refine costM_any _ fb 60 243 0 (endN O N) mem.length W fs mp mc w1 f1 f9 (by decide) hS.len (by omega) (by omega) (fun w2 K3 => ?_) (fun w2 K3 => ?_)
    · exact bareCost_return _ _ w2
    · exact reachE_return N O fb 60 m G cur _ [] w2 (hF1.kept K3).toQ (by simp) (by omega) (by omega)
  · intro w' K1 hF
    exact reachE_return N O fb 60 m (G - (0 + growC W (endN O N))) cur _ [] w' hF.toQ (by simp) (by omega) (by omega)
  · intro w' r K1 hF hr
    exact grow_S (endN O N) r (hS.frame K1 hF) hr (by omega) hrr2
  · rintro w' K1 ⟨S', mv', hS2⟩
    refine (arg_F fb 60 0 O m _ cur _ ([] ++ [N, O]) w' hS2.fr.toQ (by simp) (by simp) (by simp)).mono ?_
    rintro e w'' ⟨r, rfl, x1, K⟩
    exact ⟨r, rfl, x1, ⟨S', mv', hS2.kept K⟩, K⟩
  · rintro w' K1 ⟨S', mv', hS2⟩
    refine (arg_F fb 60 1 N m _ cur _ ([] ++ [N, O]) w' hS2.fr.toQ (by simp) (by simp) (by simp)).mono ?_
    rintro e w'' ⟨r, rfl, x1, K⟩
    exact ⟨r, rfl, x1, ⟨S', mv', hS2.kept K⟩, K⟩
  · rintro w' r r' K1 ⟨S', mv', hS2⟩ h1 h2
    obtain ⟨fs, f1, _, _, f9, _⟩ := hS2.fr.row
    have hln := hS2.len
    have hw2 := hS2.wle
    refine (read_any fb 60 fs _ r r' _ O N w' f1 f9 (hS2.mm.nat hS2.sm (by omega)) h1 h2 (by omega) (by omega)).mono ?_
    rintro e w'' ⟨u, rfl, x1, x2, K⟩
    refine ⟨u, rfl, ⟨x1, ?_, S', mv', hS2.kept K⟩, K⟩
    intro b hb
    rcases x2 with x2 | ⟨b', x2, x3⟩
    · rw [x2] at hb
      cases hb
    · rw [x2] at hb
      cases hb
      exact Nat.le_trans hS2.k.size x3
  · rintro w' u K1 ⟨x1, x0, S', mv', hS2⟩
    obtain ⟨mp', mc', em'⟩ := hS2.mm.cell
    have hmw := lt_of_row hC.mrow
    have hln := hC.len
    have hw1 := hC.wle
    have hol : (cutB (growB mem (endN O N)) O N).length = N := cutB_length _ _ _
    have hone := frX_one4 hC.nsg.one hC.nvn.one hC.ncw.one hC.niu.one hC.one.1 hC.one.2.1 hC.one.2.2.1 hC.one.2.2.2
    refine (leaveX_in c fb cap m1 G1 m _ ON OA mb mem1.length cur _ la E rt pv gv sv r6 r7 sg vn cw iu a0 a1 a2 a3 mv' u mem1 _ w' hS2.ch hS2.fr.toQ hC.inn hone (hC.parts.keptN hS2.k hH) hC.off hC.c3 hC.c4 hC.c6 hC.c7 hC.c8 hC.c9 (hC.n6.keptN hS2.k hH) (hC.n7.keptN hS2.k hH) (hH.bytes hS2.k hC.mrow) rfl (by omega) x1 hC.size hC.cap2 hC.capM hm2 (Nat.lt_of_le_of_lt hG1 (by decide)) (Nat.lt_of_le_of_lt (Nat.sub_le _ _) hG2) (by rw [em']; rfl) (by omega) (by rw [hol]; omega) (by rw [hol]; exact hfit) (fun b hb => by have := x0 b hb; omega)).mono ?_
    rintro e w'' ⟨r, fs1, rfl, y1, y2, y3, y4, y5, y6, K⟩
    rw [hol] at y5
    have hwl : (wrB mem1 OA ((cutB (growB mem (endN O N)) O N).take (min ON N))).length = mem1.length := wrB_length (by rw [List.length_take, hol]; omega)
    refine ⟨r, rfl, fs1, u, ⟨[mb], _, ?_, hC.b, y1, y2, .inr ⟨mb, by rw [hwl], y5, rfl, hC.mnew, by rw [hwl]; exact hC.pos⟩, wrB_small hC.sm (fun x hx => x1.small x (List.mem_of_mem_take hx)), by rw [hwl]; exact hC.len, hC.wle, ⟨y6, .inr fun b hb => ?_⟩, ?_⟩, y3, y4⟩
    · refine ⟨K.os.trans (hS2.k.os.trans hC.k.os), K.tape.trans (hS2.k.tape.trans hC.k.tape), K.output.trans (hS2.k.output.trans hC.k.output), Nat.le_trans hC.k.size (Nat.le_trans hS2.k.size K.size), fun i hi hx => ?_⟩
      have i1 := Nat.lt_of_lt_of_le hi hC.k.size
      have i2 := Nat.lt_of_lt_of_le i1 hS2.k.size
      have hmn := hC.mnew
      have hx2 : i ≠ c ∧ i ≠ fb := by
        simp at hx
        refine ⟨hx.1, ?_⟩
        rcases hC.b with hb | hb
        · rw [hb]; exact hx.2
        · omega
      rw [K.block i i2 (by simp; exact ⟨hx2.1, hx2.2, by omega⟩), hS2.k.block i i1 (by simp; exact hx2), hC.k.block i hi hx]
    · have := x0 b hb
      simp
      omega
    · intro b hb
      simp only [List.mem_singleton] at hb
      subst hb
      exact lt_of_row y5
end Go.Proofs.YgcsalGreat

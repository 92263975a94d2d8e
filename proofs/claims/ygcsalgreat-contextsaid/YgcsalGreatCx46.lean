/-
  What lies behind a run of Context (Finish, Export, contextHolds), and ahead of it (Stage, specOf).
-/
import Derived.Test.YgcsalGreatCx45
set_option linter.unusedSimpArgs false
set_option linter.unusedVariables false
namespace Go.Own
open Go.Proofs Go.Proofs.YgcsalGreat
abbrev bigT : Nat := 340282366920938463463374607431768211456
theorem Codes2.kept {w w' : World} {cs : Value} {d1 d2 : List Nat} (h : Codes2 w cs d1 d2) (K : Kept [] w w') : Codes2 w' cs d1 d2 := by
  obtain ⟨b, x1, x2, e, h1, h2, h3⟩ := h
  exact ⟨b, x1, x2, e, K.row h1 (by simp), h2.kept K, h3.kept K⟩
theorem Codes3.kept {w w' : World} {cs : Value} {d1 d2 d3 : List Nat} (h : Codes3 w cs d1 d2 d3) (K : Kept [] w w') : Codes3 w' cs d1 d2 d3 := by
  obtain ⟨b, cap, cur, x1, x2, x3, e, h1, e1, e2, e3, h2, h3, h4⟩ := h
  exact ⟨b, cap, cur, x1, x2, x3, e, K.row h1 (by simp), e1, e2, e3, h2.kept K, h3.kept K, h4.kept K⟩
theorem Codes2.one {w : World} {cs : Value} {d1 d2 : List Nat} (h : Codes2 w cs d1 d2) : cs.oneCell' = true := by
  obtain ⟨b, x1, x2, rfl, _⟩ := h
  rfl
theorem Codes3.one {w : World} {cs : Value} {d1 d2 d3 : List Nat} (h : Codes3 w cs d1 d2 d3) : cs.oneCell' = true := by
  obtain ⟨b, cap, cur, x1, x2, x3, rfl, _⟩ := h
  rfl
theorem rw_tx (cs : Value) (t : Nat) (crt : Bool) (v : Nat) (dv : Value) {sf cl : List Nat} (vl dp : Nat) (st : Bool) : (rwL cs t crt v dv sf cl vl dp st).toArray.extract 1 (1 + 174) = (txG t crt v dv).toArray := by
  refine extract_list (by rfl) ?_ ?_
  · simp only [rwL, List.size_toArray, List.length_append, List.length_cons, List.length_nil]
    rw [show (txG t crt v dv).length = 174 from rfl]
    omega
  · intro k hk
    rw [List.getElem?_toArray, rwL, List.getElem?_append_right (by simp), List.length_singleton, Nat.add_sub_cancel_left, List.getElem?_append_left (by rw [show (txG t crt v dv).length = 174 from rfl]; exact hk)]
theorem rowOK {cs : Value} {t : Nat} {crt : Bool} {v : Nat} {dv : Value} {sf cl : List Nat} {vl dp : Nat} {st : Bool} (h1 : sf.length = 20) (h2 : cl.length = 20) (hc : cs.oneCell' = true) (hd : dv.oneCell' = true) : RowOK (rwL cs t crt v dv sf cl vl dp st) cs (txG t crt v dv) dp :=
  ⟨rw_size cs t crt v dv vl dp st h1 h2, rwL_one _ _ _ _ _ _ _ _ _ _ hc hd, rfl, rw_216 cs t crt v dv vl dp st h1 h2, rw_tx _ _ _ _ _ _ _ _⟩
end Go.Own
namespace Go.Proofs.YgcsalGreat
open Go.RowKit Go.Own
theorem stageC_2 {k : Nat} {row : List Value} {st : Bool} {dp : Nat} {sf cl : List Nat} {tx : List Value} {cs : Value} {d1 d2 : List Nat} {w : World} (hc : Codes2 w cs d1 d2)
    (h : ∀ (c : Nat) (va tvv : Value) (w5 : World), Kept [] w w5 → w5.heap[c]? = some (.cells (ch0 va tvv) 119 (0, 0)) → AccD (D3 d1 d2) w5 va → NumV w5 tvv bigT → Calls Salg.prog 16 #[.pointer (some ⟨c, 0, none⟩), .agg tx.toArray] w5 fun e w6 => e = .returned (.int .u8 0) ∧ ∃ j, j ≤ 29 ∧ Goes c dp (fun w' => Kept [c] w5 w') (AtProbe c dp st sf cl (fun w7 => DoneC c k row st dp sf cl w7 ∧ Kept [c] w5 w7)) j w6) : StageC k row st dp sf cl tx cs w := by
  intro w1 K1
  refine (stage_2 cs d1 d2 w1 (hc.kept K1)).mono ?_
  rintro e w2 ⟨r, u1, u2, rfl, h1, h2, h3, K2⟩
  refine ⟨r, rfl, ?_, K2⟩
  intro w3 K3
  refine (specOf_D3 r u1 u2 d1 d2 w3 (h1.kept K3) (h2.kept K3) (h3.kept K3)).mono ?_
  rintro e w4 ⟨c, va, tvv, rfl, g1, g2, g3, g4, K4⟩
  refine ⟨c, rfl, g4, lt_of_row g1, ?_, K4⟩
  intro w5 K5
  exact h c va tvv w5 (K1.trans (K2.trans (K3.trans (K4.trans K5)))) (K5.row g1 (by simp)) ((AccD.still _) _ _ _ _ g2 K5 (hard_nil _)) (g3.kept K5)
theorem stageC_3 {k : Nat} {row : List Value} {st : Bool} {dp : Nat} {sf cl : List Nat} {tx : List Value} {cs : Value} {d1 d2 d3 : List Nat} {w : World} (hc : Codes3 w cs d1 d2 d3)
    (h : ∀ (c : Nat) (va tvv : Value) (w5 : World), Kept [] w w5 → w5.heap[c]? = some (.cells (ch0 va tvv) 119 (0, 0)) → AccD (D4 d1 d2 d3) w5 va → NumV w5 tvv bigT → Calls Salg.prog 16 #[.pointer (some ⟨c, 0, none⟩), .agg tx.toArray] w5 fun e w6 => e = .returned (.int .u8 0) ∧ ∃ j, j ≤ 29 ∧ Goes c dp (fun w' => Kept [c] w5 w') (AtProbe c dp st sf cl (fun w7 => DoneC c k row st dp sf cl w7 ∧ Kept [c] w5 w7)) j w6) : StageC k row st dp sf cl tx cs w := by
  intro w1 K1
  refine (stage_3c cs d1 d2 d3 w1 (hc.kept K1)).mono ?_
  rintro e w2 ⟨r, u1, u2, u3, rfl, h1, h2, h3, h4, K2⟩
  refine ⟨r, rfl, ?_, K2⟩
  intro w3 K3
  refine (specOf_D4 r u1 u2 u3 d1 d2 d3 w3 (h1.kept K3) (h2.kept K3) (h3.kept K3) (h4.kept K3)).mono ?_
  rintro e w4 ⟨c, va, tvv, rfl, g1, g2, g3, g4, K4⟩
  refine ⟨c, rfl, g4, lt_of_row g1, ?_, K4⟩
  intro w5 K5
  exact h c va tvv w5 (K1.trans (K2.trans (K3.trans (K4.trans K5)))) (K5.row g1 (by simp)) ((AccD.still _) _ _ _ _ g2 K5 (hard_nil _)) (g3.kept K5)
/-- What Finish and Export need of the accounts. -/
structure FinD (D D' : List AD) (d : AD) : Prop where
  hd : D.find? (fun x => x.adr == ad 240) = some d
  hN0 : d.N ≠ 0
  hdB : d.B < 256 ^ 100
  hll : D.length ≤ 400
  e : dPut ⟨ad 240, d.N, d.B, d.ds⟩ false D = D'
  hd2 : D'.find? (fun x => x.adr == ad 192) = none
  hll2 : D'.length ≤ 20
  hD : ∀ d ∈ D', d.adr.length = 20 ∧ d.N ≠ 0 ∧ d.N < 18446744073709551616 ∧ d.B < 256 ^ 32
theorem done_low {c k t vl dp tv : Nat} {cs dv : Value} {crt st : Bool} {sf cl : List Nat} {D D' : List AD} {d : AD} {w : World} (hE : EndG w c bigT (probeM sf cl vl) D z20) (F : FinD D D' d) (hk : k < 6) (hsf : sf.length = 20) (hcl : cl.length = 20) (ssf : Small sf) (scl : Small cl) (hvl : vl < 256) : DoneC c k (rwL cs t crt tv dv sf cl vl dp st) st dp sf cl w := by
  intro w1 K1
  refine (finish_Z c bigT _ D d w1 (hE.kept K1) F.hd F.hN0 F.hdB F.hll (by rw [F.e]; exact F.hd2) (by rw [F.e]; exact Nat.le_trans F.hll2 (by decide)) (by decide)).mono ?_
  rintro e w2 ⟨ou, U, cs', va, rfl, hou, hrow, h0, hacc, K⟩
  rw [F.e] at hacc
  refine ⟨n64 U, ou, z20, rfl, rfl, rfl, hou.one, ?_, K⟩
  intro w3 K3
  refine (export_D c 119 cs' va D' w3 (K3.row hrow (by simp)) h0 ((AccD.still _) _ _ _ _ hacc K3 (hard_nil _)) F.hD F.hll2).mono ?_
  rintro e w4 ⟨v, os, rfl, hlen, hown, houts, K4⟩
  refine ⟨v, rfl, ?_, K4⟩
  intro w5 K5 G sv mv rv
  exact holds_low k cs dv t crt tv sf cl vl dp st G sv mv rv (n64 U) ou z20 v w5 hsf hcl ssf scl hvl hk (hou.kept (K3.trans (K4.trans K5)))
theorem done_high {c k t vl dp tv : Nat} {cs dv : Value} {crt st : Bool} {sf cl ma : List Nat} {D D' : List AD} {d dx : AD} {w : World} (j : Nat) (hE : EndG w c bigT [] D ma) (hma : ma = z20 ∨ ma = ha7) (F : FinD D D' d) (hk : ¬ k < 6) (hsf : sf.length = 20) (hcl : cl.length = 20) (ssf : Small sf) (scl : Small cl) (hvl : vl < 256)
    (hj : D'[j]? = some dx) (ha : dx.adr = sf) (hB : dx.B = vl) (hds : dx.ds = probeM sf cl vl) (hne : ∀ i x, i < j → D'[i]? = some x → x.adr ≠ sf) : DoneC c k (rwL cs t crt tv dv sf cl vl dp st) st dp sf cl w := by
  intro w1 K1
  have hfin : Calls Salg.prog 28 #[.pointer (some ⟨c, 0, none⟩)] w1 fun e w' => ∃ (ou : Value) (U : Nat) (cs : Array Value) (va : Value), e = .returned (.agg (rcM (n64 U) ou ma).toArray) ∧ NatV w' ou [] ∧ w'.heap[c]? = some (.cells cs 119 (0, 0)) ∧ cs[0]? = some va ∧ AccD (dPut ⟨ad 240, d.N, d.B, d.ds⟩ false D) w' va ∧ Kept [c] w1 w' := by
    rcases hma with e | e
    · subst e
      exact finish_Z c bigT _ D d w1 (hE.kept K1) F.hd F.hN0 F.hdB F.hll (by rw [F.e]; exact F.hd2) (by rw [F.e]; exact Nat.le_trans F.hll2 (by decide)) (by decide)
    · subst e
      exact finish_7 c bigT _ D d w1 (hE.kept K1) F.hd F.hN0 F.hdB F.hll (by rw [F.e]; exact F.hd2) (by rw [F.e]; exact Nat.le_trans F.hll2 (by decide)) (by decide)
  have hml : ma.length = 20 := by rcases hma with e | e <;> (subst e; rfl)
  refine hfin.mono ?_
  rintro e w2 ⟨ou, U, cs', va, rfl, hou, hrow, h0, hacc, K⟩
  rw [F.e] at hacc
  refine ⟨n64 U, ou, ma, rfl, hml, rfl, hou.one, ?_, K⟩
  intro w3 K3
  refine (export_D c 119 cs' va D' w3 (K3.row hrow (by simp)) h0 ((AccD.still _) _ _ _ _ hacc K3 (hard_nil _)) F.hD F.hll2).mono ?_
  rintro e w4 ⟨v, os, rfl, hlen, hown, houts, K4⟩
  refine ⟨v, rfl, ?_, K4⟩
  intro w5 K5 G sv mv rv
  have hjl : j < D'.length := (List.getElem?_eq_some_iff.1 hj).1
  have hne0 : D' ≠ [] := by intro e; rw [e] at hjl; simp at hjl
  have hD20 : ∀ d ∈ D', d.adr.length = 20 := fun d hd => (F.hD d hd).1
  obtain ⟨g, cap, cur, rfl, hg, hcells⟩ := own_outD hown hne0 hD20
  obtain ⟨o, ho⟩ : ∃ o, os[j]? = some o := ⟨os[j]'(by omega), List.getElem?_eq_getElem _⟩
  have hno := (houts j dx o hj ho).kept K5
  have hone : ∀ y ∈ os, y.oneCell' = true := by
    intro y hy
    obtain ⟨i, hi, e⟩ := List.mem_iff_getElem.1 hy
    have h1 : D'[i]? = some D'[i] := List.getElem?_eq_getElem (by omega)
    exact (houts i D'[i] y h1 (by rw [List.getElem?_eq_getElem hi, e])).one
  refine holds_high k cs dv t crt tv sf cl vl dp st G sv mv rv (n64 U) ou ma _ w5 hsf hcl ssf scl hvl hk dx.N o (hou.kept (K3.trans (K4.trans K5))) (by rw [← hds]; exact hno) ?_
  intro w6 K6
  have h := lookup_D g cap j cur D' os dx o sf w6 ((K5.trans K6).row hg (by simp)) hcells hlen F.hll2 hone hD20 hj ho ha hne
  rw [hB, nbw_padN hvl] at h
  exact h
end Go.Proofs.YgcsalGreat

/-
  The walk of law.Context, its parts as premises.
-/
import Derived.Test.YgcsalGreatCx44
set_option linter.unusedSimpArgs false
set_option linter.unusedVariables false
namespace Go.Own
open Go.Proofs Go.Proofs.YgcsalGreat
def HoldC (k : Nat) (row : List Value) (st : Bool) (dp : Nat) (sf cl : List Nat) (rc : List Value) (ov : Value) (w : World) : Prop := ∀ w1, Kept [] w w1 → ∀ (G : Nat) (sv mv rv : Value), Calls Salg.prog 29 #[n8 k, .agg row.toArray, .agg (vwG st dp 0 G sf cl sv mv rv).toArray, .agg rc.toArray, ov] w1 fun e w2 => e = .returned (.bool true) ∧ Kept [] w1 w2
def ExpC (c : Nat) (k : Nat) (row : List Value) (st : Bool) (dp : Nat) (sf cl : List Nat) (rc : List Value) (w : World) : Prop := ∀ w1, Kept [] w w1 → Calls Salg.prog 30 #[.pointer (some ⟨c, 0, none⟩)] w1 fun e w2 => ∃ ov, e = .returned ov ∧ HoldC k row st dp sf cl rc ov w2 ∧ Kept [] w1 w2
def DoneC (c : Nat) (k : Nat) (row : List Value) (st : Bool) (dp : Nat) (sf cl : List Nat) (w : World) : Prop := ∀ w1, Kept [] w w1 → Calls Salg.prog 28 #[.pointer (some ⟨c, 0, none⟩)] w1 fun e w2 => ∃ (u o : Value) (ma : List Nat), e = .returned (.agg (rcM u o ma).toArray) ∧ ma.length = 20 ∧ u.oneCell' = true ∧ o.oneCell' = true ∧ ExpC c k row st dp sf cl (rcM u o ma) w2 ∧ Kept [c] w1 w2
def RunC (c : Nat) (k : Nat) (row : List Value) (st : Bool) (dp : Nat) (sf cl : List Nat) (tx : List Value) (w : World) : Prop := ∀ w5, Kept [] w w5 → Calls Salg.prog 16 #[.pointer (some ⟨c, 0, none⟩), .agg tx.toArray] w5 fun e w6 => e = .returned (.int .u8 0) ∧ ∃ j, j ≤ 29 ∧ Goes c dp (fun w' => Kept [c] w5 w') (AtProbe c dp st sf cl (fun w7 => DoneC c k row st dp sf cl w7 ∧ Kept [c] w5 w7)) j w6
def SpecC (k : Nat) (row : List Value) (st : Bool) (dp : Nat) (sf cl : List Nat) (tx : List Value) (r : Value) (w : World) : Prop := ∀ w3, Kept [] w w3 → Calls Salg.prog 13 #[r] w3 fun e w4 => ∃ c, e = .returned (.pointer (some ⟨c, 0, none⟩)) ∧ w3.heap.size ≤ c ∧ c < w4.heap.size ∧ RunC c k row st dp sf cl tx w4 ∧ Kept [] w3 w4
def StageC (k : Nat) (row : List Value) (st : Bool) (dp : Nat) (sf cl : List Nat) (tx : List Value) (cs : Value) (w : World) : Prop := ∀ w1, Kept [] w w1 → Calls Salg.prog 14 #[cs] w1 fun e w2 => ∃ r, e = .returned r ∧ SpecC k row st dp sf cl tx r w2 ∧ Kept [] w1 w2
theorem HoldC.kept {k : Nat} {row : List Value} {st : Bool} {dp : Nat} {sf cl : List Nat} {rc : List Value} {ov : Value} {w w' : World} (h : HoldC k row st dp sf cl rc ov w) (K : Kept [] w w') : HoldC k row st dp sf cl rc ov w' := fun w1 K1 => h w1 (K.trans K1)
theorem HoldC.at {k : Nat} {row : List Value} {st : Bool} {dp : Nat} {sf cl : List Nat} {rc : List Value} {ov x : Value} {w : World} (h : HoldC k row st dp sf cl rc ov w) (e : x = n8 k) (G : Nat) (sv mv rv : Value) : Calls Salg.prog 29 #[x, .agg row.toArray, .agg (vwG st dp 0 G sf cl sv mv rv).toArray, .agg rc.toArray, ov] w fun e w2 => e = .returned (.bool true) ∧ Kept [] w w2 := by
  subst e
  exact h w (Kept.refl _ _) G sv mv rv
theorem ExpC.kept {c k : Nat} {row : List Value} {st : Bool} {dp : Nat} {sf cl : List Nat} {rc : List Value} {w w' : World} (h : ExpC c k row st dp sf cl rc w) (K : Kept [] w w') : ExpC c k row st dp sf cl rc w' := fun w1 K1 => h w1 (K.trans K1)
theorem RunC.kept {c k : Nat} {row : List Value} {st : Bool} {dp : Nat} {sf cl : List Nat} {tx : List Value} {w w' : World} (h : RunC c k row st dp sf cl tx w) (K : Kept [] w w') : RunC c k row st dp sf cl tx w' := fun w1 K1 => h w1 (K.trans K1)
theorem StageC.kept {k : Nat} {row : List Value} {st : Bool} {dp : Nat} {sf cl : List Nat} {tx : List Value} {cs : Value} {w w' : World} (h : StageC k row st dp sf cl tx cs w) (K : Kept [] w w') : StageC k row st dp sf cl tx cs w' := fun w1 K1 => h w1 (K.trans K1)
structure RowOK (row : List Value) (cs : Value) (tx : List Value) (dp : Nat) : Prop where
  sz : row.toArray.size = 218
  one : ∀ u ∈ row, u.oneCell' = true
  cs0 : row.toArray[0]? = some cs
  dp6 : row.toArray[216]? = some (n8 dp)
  tx1 : row.toArray.extract 1 (1 + 174) = tx.toArray
theorem Mem.callK {w0 w w' : World} {X : List Nat} {L : List (Nat × Obj)} {c : Nat} (M : Mem w0 X L w) (K : Kept [c] w w') (hc : w0.heap.size ≤ c) (hn : ∀ p ∈ L, c ≠ p.1) : Mem w0 X L w' :=
  Mem.own' (v := .slice (some ⟨c, 0, none⟩) 0 0) M K (fun q hq => .inr (by cases hq; exact hc)) (fun p hp e => hn p hp (Option.some.inj e))
theorem vwG_one {sb : Bool} {d m G : Nat} {sf cl : List Nat} {sv mv rv : Value} (h1 : sv.oneCell' = true) (h2 : mv.oneCell' = true) (h3 : rv.oneCell' = true) : ∀ u ∈ vwG sb d m G sf cl sv mv rv, u.oneCell' = true := by
  intro u hu
  simp only [vwG, List.mem_append, List.mem_cons, List.not_mem_nil, or_false] at hu
  rcases hu with (rfl | rfl | rfl | rfl | rfl | rfl) | hu | hu | rfl | rfl | rfl | rfl
  · rfl
  · rfl
  · rfl
  · rfl
  · rfl
  · rfl
  · exact n8_onesL _ _ hu
  · exact n8_onesL _ _ hu
  · exact h1
  · exact h2
  · exact h3
  · rfl
theorem rcM_size {u o : Value} {ma : List Nat} (h : ma.length = 20) : (rcM u o ma).toArray.size = 25 := by simp [rcM, h]
theorem run_field56 {a : Act} {w : World} {dst : Option Tmp} {x : Operand} {ty : TypeId} {pos : String} {after : Array Edge} {g : Option (Nat × Bool)} {sb : Bool} {d m G : Nat} {sf cl : List Nat} {sv mv rv : Value} (hx : a.eval x = .agg (vwG sb d m G sf cl sv mv rv).toArray) (h1 : sf.length = 20) (h2 : cl.length = 20) :
    (execOp a.eval { dst := dst, op := .field 56 x 2, type := ty, pos := pos, after := after, guard := g }).run Salg.prog w = .ok (.value (.int .u8 (d : Int))) w := by
  simp only [execOp, hx]
  obtain ⟨b0, b1, b2, b3, b4, b5, b6, b7, b8, b9, b10, b11, b12, b13, b14, b15, b16, b17, b18, b19, rfl⟩ := list20 h1
  obtain ⟨d0, d1, d2, d3, d4, d5, d6, d7, d8, d9, d10, d11, d12, d13, d14, d15, d16, d17, d18, d19, rfl⟩ := list20 h2
  kernel_rfl
end Go.Own
namespace Go.Proofs.YgcsalGreat
open Go.RowKit Go.Own

set_option maxHeartbeats 4000000 in
set_option maxRecDepth 100000 in
theorem context_le (k r tv v : Nat) (st : Bool) (dp : Nat) (sf cl : List Nat) (w : World) (hr : k % 8 = r) (hsf : sf.length = 20) (hcl : cl.length = 20) (hv : v ≤ tv) (hway : ∀ w', Kept [] w w' → Calls Salg.prog 26 #[n8 r, n8 tv, n8 v] w' fun e w'' => ∃ (cs : Value) (tx row : List Value), e = .returned (.agg row.toArray) ∧ RowOK row cs tx dp ∧ StageC r row st dp sf cl tx cs w'' ∧ Kept [] w' w'') : Calls Salg.prog 6 #[n8 k, n8 tv, n8 v] w fun e w' => e = .returned (.bool true) ∧ Kept [] w w' := by
  have M := Mem.start w []
  have HW := hid hway
  have HS := hid hsf
  have HC := hid hcl
  have dg : decide ((tv : Int) < (v : Int)) = false := by simp; omega
  have eg : decide (tv < v) = false := by simp; omega
  have em : (k : Int) % 8 = (r : Int) := by omega
  have HEM : Hid (Value.int .u8 ((k : Int) % 8) = n8 r) := hid (by rw [em])
  clear hway hsf hcl
  go_enter Salg.func6, Salg.ntmps6
  go_wp2_with fail
  clear em dg eg
  refine (HW.out _ M.kept).mono ?_
  rintro e w1 ⟨cs, tx, row, rfl, xR, xS, K⟩
  have HRW := hid xR
  have HST := hid xS
  have HR0 := hid xR.cs0
  have HR216 := hid xR.dp6
  have HTX := hid xR.tx1
  have HRS : Hid (row.toArray.size = 218) := hid xR.sz
  have HRS1 : Hid (1 + 174 ≤ row.toArray.size) := hid (by rw [xR.sz]; decide)
  have HRS2 : Hid (row.toArray.size = rwZ.toArray.size) := hid (by rw [xR.sz]; kernel_rfl)
  have HRS3 : Hid ((Salg.prog.info? 69).map (·.size) = some row.toArray.size) := hid (by rw [xR.sz]; exact size69N)
  have HRO := hid (oneT xR.one)
  replace M := M.call K
  clear K xR xS HW
  obtain ⟨wa, hwa⟩ : ∃ wa, wa = w1 := ⟨_, rfl⟩
  have HM1 := hid M
  replace M := Mem.start w1 []
  go_wp2_with (first
    | ((with_reducible apply L_allocA (d := 7) M); exact zero69; clear M; intro t7 w2 ht7 M; simp only [Act.put, List.setIfInBounds_toArray, List.set_cons_zero, List.set_cons_succ])
    | ((with_reducible apply W_storeK (b := t7) (vs := row.toArray)); rfl; rfl; exact M.r0; exact size69Z; exact HRS2.out; exact HRO.out; intro w5 K hr3; replace M := Mem.callPut (L1 := []) M (Or.inr ht7) K hr3; clear K hr3; simp only [List.cons_append, List.nil_append] at M)
    | ((with_reducible apply W_loadCell); rfl; exact M.r0; exact HR0.out; exact Salg.underlying42; rfl; simp only [Act.put, List.setIfInBounds_toArray, List.set_cons_zero, List.set_cons_succ]))
  refine (HST.out _ M.kept).mono ?_
  rintro e w3 ⟨rv0, rfl, xSP, K⟩
  have HSP := hid xSP
  replace M := M.call K
  clear K xSP HST
  go_wp2_with fail
  have hM3 := M.r0
  refine (HSP.out _ (Kept.refl _ _)).mono ?_
  rintro e w4 ⟨c, rfl, hc1, hc2, xRU, K⟩
  have HRU := hid xRU
  have htc : t7 ≠ c := Nat.ne_of_lt (Nat.lt_of_lt_of_le (lt_of_row hM3) hc1)
  have hwc : w.heap.size ≤ c := Nat.le_trans HM1.out.kept.size (Nat.le_trans M.kept.size hc1)
  replace M := M.call K
  have HM4 : Hid (Mem w [] [(t7, .cells row.toArray 69 (0, 0))] w4) := hid ((HM1.out.call M.kept).add M.r0 (by simp))
  clear K xRU HSP hM3 M hc1
  have M := HM4.out
  go_wp2_with ((with_reducible apply W_loadX (b := t7) (o := 1) (n := 174) (vs := tx.toArray)); rfl; exact M.r0; exact Salg.underlying49; rfl; exact size49; exact HRS1.out; exact HTX.out; simp only [Act.put, List.setIfInBounds_toArray, List.set_cons_zero, List.set_cons_succ])
  refine (HRU.out _ (Kept.refl _ _)).mono ?_
  rintro e w6 ⟨rfl, j0, hj0, xG⟩
  have HG := hid xG
  clear xG HRU M
  generalize hRR : (fun w' => Kept [c] w4 w') = RR at *
  generalize hPP : (AtProbe c dp st sf cl (fun w7 => DoneC c r row st dp sf cl w7 ∧ Kept [c] w4 w7)) = PP at *
  have HRR := hid hRR
  have HPP := hid hPP
  clear hRR hPP
  go_wp2_with fail
  go_loopw [9] (fun iv wr => ∃ i j : Nat, iv = .int .i64 (i : Int) ∧ i + j ≤ 29 ∧ Goes c dp RR PP j wr) (fun iv _ => (30 - intOf iv).toNat)
  case atStart => exact ⟨0, j0, rfl, by omega, HG.out⟩
  case round =>
    clear HG
    obtain ⟨i, j, rfl, hij, xg⟩ := hrel
    have d30 : decide ((i : Int) < 30) = true := by simp; omega
    cases j with
    | succ j =>
      obtain ⟨xrr, xsn, xst⟩ := xg
      rw [← HRR.out] at xrr
      have HSN := hid xsn
      have HSTP := hid xst
      have hrow : wr.heap[t7]? = some (.cells row.toArray 69 (0, 0)) := xrr.row HM4.out.r0 (by simp; exact htc)
      have M := (Mem.start wr []).add hrow (by simp)
      clear xrr xsn xst hrow
      go_wp2_with fail
      refine S_region (by kernel_rfl) ?_
      refine E_stage 0 10 [0, 1, 2, 3, 6, 7, 4, 5, 8, 9] (by kernel_rfl) M.drew ?_
      clear M
      simp only [List.filterMap_cons, List.filterMap_nil, List.getElem?_cons_zero, List.getElem?_cons_succ]
      ((with_reducible apply E_run); rfl; rfl; (intro w M; go_simp; (try go_ints); (try simp only [↓IntWalk.iteOmega]); (try with_reducible rfl)); simp only [Act.put, List.setIfInBounds_toArray, List.set_cons_zero, List.set_cons_succ])
      ((with_reducible apply E_run (v := .bool true)); rfl; rfl; (intro w M; go_simp <;> (first | omega | (simp; omega))); simp only [Act.put, List.setIfInBounds_toArray, List.set_cons_zero, List.set_cons_succ])
      ((with_reducible apply E_run); rfl; rfl; (intro w M; go_simp; (try go_ints); (try simp only [↓IntWalk.iteOmega]); (try with_reducible rfl)); simp only [Act.put, List.setIfInBounds_toArray, List.set_cons_zero, List.set_cons_succ])
      ((with_reducible apply E_run); rfl; rfl; (intro w M; go_simp; (try go_ints); (try simp only [↓IntWalk.iteOmega]); (try with_reducible rfl)); simp only [Act.put, List.setIfInBounds_toArray, List.set_cons_zero, List.set_cons_succ])
      ((with_reducible apply E_run); rfl; rfl; (intro w M; go_simp; (try go_ints); (try simp only [↓IntWalk.iteOmega]); (try with_reducible rfl)); simp only [Act.put, List.setIfInBounds_toArray, List.set_cons_zero, List.set_cons_succ])
      ((with_reducible apply E_run); rfl; rfl; (intro w M; exact run_loadCell (M.r0) rfl HR216.out Salg.underlying5 rfl); simp only [Act.put, List.setIfInBounds_toArray, List.set_cons_zero, List.set_cons_succ])
      refine E_call rfl Salg.func20 (by kernel_rfl) (by kernel_rfl) (args := [.pointer (some ⟨c, 0, none⟩)]) rfl ?_
      intro w1 K M
      clear K
      refine (HSN.out _ M.kept).mono ?_
      rintro e w8 ⟨sb, d1, m1, G1, sf1, cl1, sv1, mv1, rv1, rfl, xHV1, xHV2, xHV3, xHV4, K⟩
      have HV1 := hid xHV1
      have HV2 := hid xHV2
      have HV3 := hid xHV3
      have HV4 := hid xHV4
      clear xHV1 xHV2 xHV3 xHV4
      replace M := M.call K
      refine ⟨_, rfl, trivial, M, ?_⟩
      clear K
      simp only [Act.put, List.setIfInBounds_toArray, List.set_cons_zero, List.set_cons_succ]
      ((with_reducible apply E_run (v := .int .u8 (d1 : Int))); rfl; rfl; (intro w M; exact run_field56 rfl HV1.out HV2.out); simp only [Act.put, List.setIfInBounds_toArray, List.set_cons_zero, List.set_cons_succ])
      have hne : (d1 : Int) ≠ (dp : Int) := by
        have h4 := HV4.out
        omega
      have hne2 : decide ((d1 : Int) = (dp : Int)) = false := by simp; omega
      have hne3 : ((d1 : Int) == (dp : Int)) = false := by simp; omega
      have hne4 : decide (d1 = dp) = false := by simp; omega
      ((with_reducible apply E_run (v := .bool true)); rfl; rfl; (intro w M; go_simp <;> (first | omega | (simp; omega) | simp)); simp only [Act.put, List.setIfInBounds_toArray, List.set_cons_zero, List.set_cons_succ])
      ((with_reducible apply E_run); rfl; rfl; (intro w M; go_simp; (try go_ints); (try simp only [↓IntWalk.iteOmega]); (try with_reducible rfl)); simp only [Act.put, List.setIfInBounds_toArray, List.set_cons_zero, List.set_cons_succ])
      refine E_nil ?_
      intro w9 K M
      clear K
      refine S_done ?_
      go_wp2_with fail
      refine (HSTP.out _ M.kept).mono ?_
      rintro e w10 ⟨rfl, xg2⟩
      have HG2 := hid xg2
      clear xg2 HSTP HSN M
      go_wp2_with fail
      go_roundw
      case rel => exact ⟨i + 1, j, by go_num, by omega, HG2.out⟩
      case measure => simp [intOf]; omega
    | zero =>
      obtain ⟨xrr, xpp⟩ := xg
      rw [← HRR.out] at xrr
      rw [← HPP.out] at xpp
      obtain ⟨xsee, n0, f, hf, xpl⟩ := xpp
      have HSEE := hid xsee
      have HPL := hid xpl
      have hrow : wr.heap[t7]? = some (.cells row.toArray 69 (0, 0)) := xrr.row HM4.out.r0 (by simp; exact htc)
      have hcw : c < wr.heap.size := Nat.lt_of_lt_of_le hc2 xrr.size
      have ht7w : t7 < wr.heap.size := lt_of_row hrow
      have M := (Mem.start wr []).add hrow (by simp)
      clear xrr xsee xpl hrow
      go_wp2_with fail
      refine S_region (by kernel_rfl) ?_
      refine E_stage 0 10 [0, 1, 2, 3, 6, 7, 4, 5, 8, 9] (by kernel_rfl) M.drew ?_
      clear M
      simp only [List.filterMap_cons, List.filterMap_nil, List.getElem?_cons_zero, List.getElem?_cons_succ]
      ((with_reducible apply E_run); rfl; rfl; (intro w M; go_simp; (try go_ints); (try simp only [↓IntWalk.iteOmega]); (try with_reducible rfl)); simp only [Act.put, List.setIfInBounds_toArray, List.set_cons_zero, List.set_cons_succ])
      ((with_reducible apply E_run (v := .bool true)); rfl; rfl; (intro w M; go_simp <;> (first | omega | (simp; omega))); simp only [Act.put, List.setIfInBounds_toArray, List.set_cons_zero, List.set_cons_succ])
      ((with_reducible apply E_run); rfl; rfl; (intro w M; go_simp; (try go_ints); (try simp only [↓IntWalk.iteOmega]); (try with_reducible rfl)); simp only [Act.put, List.setIfInBounds_toArray, List.set_cons_zero, List.set_cons_succ])
      ((with_reducible apply E_run); rfl; rfl; (intro w M; go_simp; (try go_ints); (try simp only [↓IntWalk.iteOmega]); (try with_reducible rfl)); simp only [Act.put, List.setIfInBounds_toArray, List.set_cons_zero, List.set_cons_succ])
      ((with_reducible apply E_run); rfl; rfl; (intro w M; go_simp; (try go_ints); (try simp only [↓IntWalk.iteOmega]); (try with_reducible rfl)); simp only [Act.put, List.setIfInBounds_toArray, List.set_cons_zero, List.set_cons_succ])
      ((with_reducible apply E_run); rfl; rfl; (intro w M; exact run_loadCell (M.r0) rfl HR216.out Salg.underlying5 rfl); simp only [Act.put, List.setIfInBounds_toArray, List.set_cons_zero, List.set_cons_succ])
      refine E_call rfl Salg.func20 (by kernel_rfl) (by kernel_rfl) (args := [.pointer (some ⟨c, 0, none⟩)]) rfl ?_
      intro w1 K M
      clear K
      refine (HSEE.out _ M.kept).mono ?_
      rintro e w8 ⟨G1, sv1, mv1, rv1, rfl, xHV1, xHV2, xHV3, K⟩
      have HV1 := hid xHV1
      have HV2 := hid xHV2
      have HV3 := hid xHV3
      clear xHV1 xHV2 xHV3
      replace M := M.call K
      refine ⟨_, rfl, trivial, M, ?_⟩
      clear K
      simp only [Act.put, List.setIfInBounds_toArray, List.set_cons_zero, List.set_cons_succ]
      ((with_reducible apply E_run (v := .int .u8 (dp : Int))); rfl; rfl; (intro w M; exact run_field56 rfl HS.out HC.out); simp only [Act.put, List.setIfInBounds_toArray, List.set_cons_zero, List.set_cons_succ])
      ((with_reducible apply E_run (v := .bool false)); rfl; rfl; (intro w M; go_simp <;> (first | omega | (simp; omega) | simp)); simp only [Act.put, List.setIfInBounds_toArray, List.set_cons_zero, List.set_cons_succ])
      ((with_reducible apply E_run); rfl; rfl; (intro w M; go_simp; (try go_ints); (try simp only [↓IntWalk.iteOmega]); (try with_reducible rfl)); simp only [Act.put, List.setIfInBounds_toArray, List.set_cons_zero, List.set_cons_succ])
      refine E_nil ?_
      intro w9 K M
      clear K
      refine S_done ?_
      go_wp2_with fail
      refine (HSEE.out _ M.kept).mono ?_
      rintro e w10 ⟨G, sv, mv, rv, rfl, o1, o2, o3, K⟩
      replace M := M.call K
      clear K HSEE
      have HVO := hid (oneT (vwG_one (sb := st) (d := dp) (m := 0) (G := G) (sf := sf) (cl := cl) o1 o2 o3))
      have HVZ : Hid ((vwG st dp 0 G sf cl sv mv rv).toArray.size = 50) := hid (vq_size st dp 0 G sv mv rv HS.out HC.out)
      have HVZ2 : Hid ((Salg.prog.info? 56).map (·.size) = some (vwG st dp 0 G sf cl sv mv rv).toArray.size) := hid (by rw [HVZ.out]; exact size56)
      clear o1 o2 o3
      go_wp2_with (first
        | ((with_reducible apply L_allocA (d := 10) M); exact zero56; clear M; intro t10 w11 ht10 M; simp only [Act.put, List.setIfInBounds_toArray, List.set_cons_zero, List.set_cons_succ])
        | ((with_reducible apply W_storeK (b := t10) (vs := (vwG st dp 0 G sf cl sv mv rv).toArray)); rfl; rfl; exact M.r0; exact size56; exact HVZ.out; exact HVO.out; intro w12 K hr3; replace M := Mem.callPut (L1 := []) M (Or.inr ht10) K hr3; clear K hr3; simp only [List.cons_append, List.nil_append] at M))
      have HM12 := hid M
      have HPL2 := hid (HPL.out _ M.kept)
      clear HPL M
      generalize hQQ : (fun w2 => (DoneC c r row st dp sf cl w2 ∧ Kept [c] w4 w2) ∧ Kept [c, f] w12 w2) = QQ at *
      have HQQ := hid hQQ
      clear hQQ
      obtain ⟨μ, hμ⟩ := exists_measure (fun wr k => Play c QQ k wr)
      have HMU := hid hμ
      clear hμ
      go_loopw [] (fun wr => ∃ k, Play c QQ k wr) (fun wr => μ wr)
      case atStart => exact ⟨n0, HPL2.out⟩
      case round =>
        clear HPL2
        obtain ⟨k0, xk⟩ := hrel
        obtain ⟨xp, xl⟩ := HMU.out wr _ xk
        clear xk
        generalize hk : μ wr = k3 at *
        have HL := hid xl
        clear xl
        cases k3 with
        | zero =>
          have HPL : Hid (Play c QQ 0 wr) := xp
          have HK := hid hk
          clear xp hk
          go_wp2_with fail
          refine HPL.out.mono ?_
          rintro e w13 ⟨rfl, xq⟩
          rw [← HQQ.out] at xq
          obtain ⟨⟨xd, xk4⟩, xkf⟩ := xq
          have hrow7 : w13.heap[t7]? = some (.cells row.toArray 69 (0, 0)) := xk4.row HM4.out.r0 (by simp; exact htc)
          have hrow10 := xkf.row HM12.out.r0 (by simp; exact ⟨by omega, by omega⟩)
          have HDN := hid xd
          have HM13 : Hid (Mem w [] [(t7, .cells row.toArray 69 (0, 0))] w13) := hid (HM4.out.callK xk4 hwc (by simp; exact fun e => htc e.symm))
          clear xd xk4 xkf
          have HR10 := hid hrow10
          have HR7 := hid hrow7
          clear hrow10 hrow7
          go_wp2_with fail
          refine (HDN.out _ (Kept.refl _ _)).mono ?_
          rintro e w14 ⟨u, o, ma, rfl, hma, o1, o2, xE, K⟩
          have HEX := hid xE
          have HM14 := hid (HM13.out.callK K hwc (by simp; exact fun e => htc e.symm))
          have hrow7 := K.row HR7.out (by simp; exact htc)
          have hrow10 := K.row HR10.out (by simp; omega)
          have M := ((Mem.start w14 []).add hrow7 (by simp)).add hrow10 (by simp; omega)
          have HRCO := hid (rcM_one (u := u) (o := o) (ma := ma) o1 o2)
          have HRCZ : Hid ((rcM u o ma).toArray.size = 25) := hid (rcM_size hma)
          have HRCZ2 : Hid ((Salg.prog.info? 65).map (·.size) = some (rcM u o ma).toArray.size) := hid (by rw [HRCZ.out]; exact size65)
          clear xE K hrow7 hrow10 o1 o2 HDN HM13 HR10 HR7
          go_wp2_with (first
            | ((with_reducible apply L_allocA (d := 11) M); exact zero65; clear M; intro t11 w15 ht11 M; simp only [Act.put, List.setIfInBounds_toArray, List.set_cons_zero, List.set_cons_succ])
            | ((with_reducible apply W_storeK (b := t11) (vs := (rcM u o ma).toArray)); rfl; rfl; exact M.r0; exact size65; exact HRCZ.out; exact HRCO.out; intro w16 K hr3; replace M := Mem.callPut (L1 := []) M (Or.inr ht11) K hr3; clear K hr3; simp only [List.cons_append, List.nil_append] at M))
          replace HEX := hid (HEX.out.kept M.kept)
          refine S_region (by kernel_rfl) ?_
          replace HEX := hid (HEX.out.kept (Kept.refl [] _).drew)
          refine E_stage 0 8 [0, 1, 2, 3, 4, 5, 6, 7] (by kernel_rfl) M.drew ?_
          clear M
          simp only [List.filterMap_cons, List.filterMap_nil, List.getElem?_cons_zero, List.getElem?_cons_succ]
          ((with_reducible apply E_run); rfl; rfl; (intro w M; go_simp; (try go_ints); (try simp only [↓IntWalk.iteOmega]); (try with_reducible rfl)); simp only [Act.put, List.setIfInBounds_toArray, List.set_cons_zero, List.set_cons_succ])
          ((with_reducible apply E_run); rfl; rfl; (intro w M; exact run_loadAll M.r2 rfl Salg.underlying69 rfl HRS3.out); simp only [Act.put, List.setIfInBounds_toArray, List.set_cons_zero, List.set_cons_succ])
          ((with_reducible apply E_run); rfl; rfl; (intro w M; exact run_loadAll M.r1 rfl Salg.underlying56 rfl HVZ2.out); simp only [Act.put, List.setIfInBounds_toArray, List.set_cons_zero, List.set_cons_succ])
          ((with_reducible apply E_run); rfl; rfl; (intro w M; exact run_loadAll M.r0 rfl Salg.underlying65 rfl HRCZ2.out); simp only [Act.put, List.setIfInBounds_toArray, List.set_cons_zero, List.set_cons_succ])
          ((with_reducible apply E_run); rfl; rfl; (intro w M; go_simp; (try go_ints); (try simp only [↓IntWalk.iteOmega]); (try with_reducible rfl)); simp only [Act.put, List.setIfInBounds_toArray, List.set_cons_zero, List.set_cons_succ])
          refine E_call rfl Salg.func30 (by kernel_rfl) (by kernel_rfl) (args := [.pointer (some ⟨c, 0, none⟩)]) rfl ?_
          intro w1 K M
          replace HEX := hid (HEX.out.kept K)
          clear K
          refine (HEX.out _ (Kept.refl _ _)).mono ?_
          rintro e w17 ⟨ov, rfl, xHHO, K⟩
          have HHO := hid xHHO
          clear xHHO
          replace HEX := hid (HEX.out.kept K)
          replace M := M.call K
          refine ⟨_, rfl, trivial, M, ?_⟩
          clear K
          simp only [Act.put, List.setIfInBounds_toArray, List.set_cons_zero, List.set_cons_succ]
          refine E_call rfl Salg.func29 (by kernel_rfl) (by kernel_rfl) (args := [.int .u8 ((k : Int) % 8), .agg row.toArray, .agg (vwG st dp 0 G sf cl sv mv rv).toArray, .agg (rcM u o ma).toArray, ov]) rfl ?_
          intro w1 K M
          replace HEX := hid (HEX.out.kept K)
          replace HHO := hid (HHO.out.kept K)
          clear K
          refine (HHO.out.at HEM.out G sv mv rv).mono ?_
          rintro e w18 ⟨rfl, K⟩
          replace HEX := hid (HEX.out.kept K)
          replace HHO := hid (HHO.out.kept K)
          replace M := M.call K
          refine ⟨_, rfl, trivial, M, ?_⟩
          clear K
          simp only [Act.put, List.setIfInBounds_toArray, List.set_cons_zero, List.set_cons_succ]
          ((with_reducible apply E_run); rfl; rfl; (intro w M; go_simp; (try go_ints); (try simp only [↓IntWalk.iteOmega]); (try with_reducible rfl)); simp only [Act.put, List.setIfInBounds_toArray, List.set_cons_zero, List.set_cons_succ])
          refine E_nil ?_
          intro w19 K M
          replace HEX := hid (HEX.out.kept K)
          replace HHO := hid (HHO.out.kept K)
          clear K
          refine S_done ?_
          go_wp2_with fail
          go_ret
          exact ⟨rfl, HM14.out.kept.trans M.kept⟩
        | succ k3 =>
          have HPL : Hid (Play c QQ (k3 + 1) wr) := xp
          have HK := hid hk
          clear xp hk
          go_wp2_with fail
          refine HPL.out.mono ?_
          rintro e w13 ⟨rfl, xq⟩
          have HQ2 := hid xq
          clear xq
          go_wp2_with fail
          go_roundw
          case rel => exact ⟨k3, HQ2.out⟩
          case measure =>
            have h2 := (HMU.out w13 _ HQ2.out).2 k3 HQ2.out
            have h3 := HK.out
            omega

set_option maxHeartbeats 4000000 in
set_option maxRecDepth 100000 in
theorem context_gt (k r tv v : Nat) (st : Bool) (dp : Nat) (sf cl : List Nat) (w : World) (hr : k % 8 = r) (hsf : sf.length = 20) (hcl : cl.length = 20) (hv : tv < v) (hway : ∀ w', Kept [] w w' → Calls Salg.prog 26 #[n8 r, n8 tv, n8 tv] w' fun e w'' => ∃ (cs : Value) (tx row : List Value), e = .returned (.agg row.toArray) ∧ RowOK row cs tx dp ∧ StageC r row st dp sf cl tx cs w'' ∧ Kept [] w' w'') : Calls Salg.prog 6 #[n8 k, n8 tv, n8 v] w fun e w' => e = .returned (.bool true) ∧ Kept [] w w' := by
  have M := Mem.start w []
  have HW := hid hway
  have HS := hid hsf
  have HC := hid hcl
  have dg : decide ((tv : Int) < (v : Int)) = true := by simp; omega
  have eg : decide (tv < v) = true := by simp; omega
  have em : (k : Int) % 8 = (r : Int) := by omega
  have HEM : Hid (Value.int .u8 ((k : Int) % 8) = n8 r) := hid (by rw [em])
  clear hway hsf hcl
  go_enter Salg.func6, Salg.ntmps6
  go_wp2_with fail
  clear em dg eg
  refine (HW.out _ M.kept).mono ?_
  rintro e w1 ⟨cs, tx, row, rfl, xR, xS, K⟩
  have HRW := hid xR
  have HST := hid xS
  have HR0 := hid xR.cs0
  have HR216 := hid xR.dp6
  have HTX := hid xR.tx1
  have HRS : Hid (row.toArray.size = 218) := hid xR.sz
  have HRS1 : Hid (1 + 174 ≤ row.toArray.size) := hid (by rw [xR.sz]; decide)
  have HRS2 : Hid (row.toArray.size = rwZ.toArray.size) := hid (by rw [xR.sz]; kernel_rfl)
  have HRS3 : Hid ((Salg.prog.info? 69).map (·.size) = some row.toArray.size) := hid (by rw [xR.sz]; exact size69N)
  have HRO := hid (oneT xR.one)
  replace M := M.call K
  clear K xR xS HW
  obtain ⟨wa, hwa⟩ : ∃ wa, wa = w1 := ⟨_, rfl⟩
  have HM1 := hid M
  replace M := Mem.start w1 []
  go_wp2_with (first
    | ((with_reducible apply L_allocA (d := 7) M); exact zero69; clear M; intro t7 w2 ht7 M; simp only [Act.put, List.setIfInBounds_toArray, List.set_cons_zero, List.set_cons_succ])
    | ((with_reducible apply W_storeK (b := t7) (vs := row.toArray)); rfl; rfl; exact M.r0; exact size69Z; exact HRS2.out; exact HRO.out; intro w5 K hr3; replace M := Mem.callPut (L1 := []) M (Or.inr ht7) K hr3; clear K hr3; simp only [List.cons_append, List.nil_append] at M)
    | ((with_reducible apply W_loadCell); rfl; exact M.r0; exact HR0.out; exact Salg.underlying42; rfl; simp only [Act.put, List.setIfInBounds_toArray, List.set_cons_zero, List.set_cons_succ]))
  refine (HST.out _ M.kept).mono ?_
  rintro e w3 ⟨rv0, rfl, xSP, K⟩
  have HSP := hid xSP
  replace M := M.call K
  clear K xSP HST
  go_wp2_with fail
  have hM3 := M.r0
  refine (HSP.out _ (Kept.refl _ _)).mono ?_
  rintro e w4 ⟨c, rfl, hc1, hc2, xRU, K⟩
  have HRU := hid xRU
  have htc : t7 ≠ c := Nat.ne_of_lt (Nat.lt_of_lt_of_le (lt_of_row hM3) hc1)
  have hwc : w.heap.size ≤ c := Nat.le_trans HM1.out.kept.size (Nat.le_trans M.kept.size hc1)
  replace M := M.call K
  have HM4 : Hid (Mem w [] [(t7, .cells row.toArray 69 (0, 0))] w4) := hid ((HM1.out.call M.kept).add M.r0 (by simp))
  clear K xRU HSP hM3 M hc1
  have M := HM4.out
  go_wp2_with ((with_reducible apply W_loadX (b := t7) (o := 1) (n := 174) (vs := tx.toArray)); rfl; exact M.r0; exact Salg.underlying49; rfl; exact size49; exact HRS1.out; exact HTX.out; simp only [Act.put, List.setIfInBounds_toArray, List.set_cons_zero, List.set_cons_succ])
  refine (HRU.out _ (Kept.refl _ _)).mono ?_
  rintro e w6 ⟨rfl, j0, hj0, xG⟩
  have HG := hid xG
  clear xG HRU M
  generalize hRR : (fun w' => Kept [c] w4 w') = RR at *
  generalize hPP : (AtProbe c dp st sf cl (fun w7 => DoneC c r row st dp sf cl w7 ∧ Kept [c] w4 w7)) = PP at *
  have HRR := hid hRR
  have HPP := hid hPP
  clear hRR hPP
  go_wp2_with fail
  go_loopw [9] (fun iv wr => ∃ i j : Nat, iv = .int .i64 (i : Int) ∧ i + j ≤ 29 ∧ Goes c dp RR PP j wr) (fun iv _ => (30 - intOf iv).toNat)
  case atStart => exact ⟨0, j0, rfl, by omega, HG.out⟩
  case round =>
    clear HG
    obtain ⟨i, j, rfl, hij, xg⟩ := hrel
    have d30 : decide ((i : Int) < 30) = true := by simp; omega
    cases j with
    | succ j =>
      obtain ⟨xrr, xsn, xst⟩ := xg
      rw [← HRR.out] at xrr
      have HSN := hid xsn
      have HSTP := hid xst
      have hrow : wr.heap[t7]? = some (.cells row.toArray 69 (0, 0)) := xrr.row HM4.out.r0 (by simp; exact htc)
      have M := (Mem.start wr []).add hrow (by simp)
      clear xrr xsn xst hrow
      go_wp2_with fail
      refine S_region (by kernel_rfl) ?_
      refine E_stage 0 10 [0, 1, 2, 3, 6, 7, 4, 5, 8, 9] (by kernel_rfl) M.drew ?_
      clear M
      simp only [List.filterMap_cons, List.filterMap_nil, List.getElem?_cons_zero, List.getElem?_cons_succ]
      ((with_reducible apply E_run); rfl; rfl; (intro w M; go_simp; (try go_ints); (try simp only [↓IntWalk.iteOmega]); (try with_reducible rfl)); simp only [Act.put, List.setIfInBounds_toArray, List.set_cons_zero, List.set_cons_succ])
      ((with_reducible apply E_run (v := .bool true)); rfl; rfl; (intro w M; go_simp <;> (first | omega | (simp; omega))); simp only [Act.put, List.setIfInBounds_toArray, List.set_cons_zero, List.set_cons_succ])
      ((with_reducible apply E_run); rfl; rfl; (intro w M; go_simp; (try go_ints); (try simp only [↓IntWalk.iteOmega]); (try with_reducible rfl)); simp only [Act.put, List.setIfInBounds_toArray, List.set_cons_zero, List.set_cons_succ])
      ((with_reducible apply E_run); rfl; rfl; (intro w M; go_simp; (try go_ints); (try simp only [↓IntWalk.iteOmega]); (try with_reducible rfl)); simp only [Act.put, List.setIfInBounds_toArray, List.set_cons_zero, List.set_cons_succ])
      ((with_reducible apply E_run); rfl; rfl; (intro w M; go_simp; (try go_ints); (try simp only [↓IntWalk.iteOmega]); (try with_reducible rfl)); simp only [Act.put, List.setIfInBounds_toArray, List.set_cons_zero, List.set_cons_succ])
      ((with_reducible apply E_run); rfl; rfl; (intro w M; exact run_loadCell (M.r0) rfl HR216.out Salg.underlying5 rfl); simp only [Act.put, List.setIfInBounds_toArray, List.set_cons_zero, List.set_cons_succ])
      refine E_call rfl Salg.func20 (by kernel_rfl) (by kernel_rfl) (args := [.pointer (some ⟨c, 0, none⟩)]) rfl ?_
      intro w1 K M
      clear K
      refine (HSN.out _ M.kept).mono ?_
      rintro e w8 ⟨sb, d1, m1, G1, sf1, cl1, sv1, mv1, rv1, rfl, xHV1, xHV2, xHV3, xHV4, K⟩
      have HV1 := hid xHV1
      have HV2 := hid xHV2
      have HV3 := hid xHV3
      have HV4 := hid xHV4
      clear xHV1 xHV2 xHV3 xHV4
      replace M := M.call K
      refine ⟨_, rfl, trivial, M, ?_⟩
      clear K
      simp only [Act.put, List.setIfInBounds_toArray, List.set_cons_zero, List.set_cons_succ]
      ((with_reducible apply E_run (v := .int .u8 (d1 : Int))); rfl; rfl; (intro w M; exact run_field56 rfl HV1.out HV2.out); simp only [Act.put, List.setIfInBounds_toArray, List.set_cons_zero, List.set_cons_succ])
      have hne : (d1 : Int) ≠ (dp : Int) := by
        have h4 := HV4.out
        omega
      have hne2 : decide ((d1 : Int) = (dp : Int)) = false := by simp; omega
      have hne3 : ((d1 : Int) == (dp : Int)) = false := by simp; omega
      have hne4 : decide (d1 = dp) = false := by simp; omega
      ((with_reducible apply E_run (v := .bool true)); rfl; rfl; (intro w M; go_simp <;> (first | omega | (simp; omega) | simp)); simp only [Act.put, List.setIfInBounds_toArray, List.set_cons_zero, List.set_cons_succ])
      ((with_reducible apply E_run); rfl; rfl; (intro w M; go_simp; (try go_ints); (try simp only [↓IntWalk.iteOmega]); (try with_reducible rfl)); simp only [Act.put, List.setIfInBounds_toArray, List.set_cons_zero, List.set_cons_succ])
      refine E_nil ?_
      intro w9 K M
      clear K
      refine S_done ?_
      go_wp2_with fail
      refine (HSTP.out _ M.kept).mono ?_
      rintro e w10 ⟨rfl, xg2⟩
      have HG2 := hid xg2
      clear xg2 HSTP HSN M
      go_wp2_with fail
      go_roundw
      case rel => exact ⟨i + 1, j, by go_num, by omega, HG2.out⟩
      case measure => simp [intOf]; omega
    | zero =>
      obtain ⟨xrr, xpp⟩ := xg
      rw [← HRR.out] at xrr
      rw [← HPP.out] at xpp
      obtain ⟨xsee, n0, f, hf, xpl⟩ := xpp
      have HSEE := hid xsee
      have HPL := hid xpl
      have hrow : wr.heap[t7]? = some (.cells row.toArray 69 (0, 0)) := xrr.row HM4.out.r0 (by simp; exact htc)
      have hcw : c < wr.heap.size := Nat.lt_of_lt_of_le hc2 xrr.size
      have ht7w : t7 < wr.heap.size := lt_of_row hrow
      have M := (Mem.start wr []).add hrow (by simp)
      clear xrr xsee xpl hrow
      go_wp2_with fail
      refine S_region (by kernel_rfl) ?_
      refine E_stage 0 10 [0, 1, 2, 3, 6, 7, 4, 5, 8, 9] (by kernel_rfl) M.drew ?_
      clear M
      simp only [List.filterMap_cons, List.filterMap_nil, List.getElem?_cons_zero, List.getElem?_cons_succ]
      ((with_reducible apply E_run); rfl; rfl; (intro w M; go_simp; (try go_ints); (try simp only [↓IntWalk.iteOmega]); (try with_reducible rfl)); simp only [Act.put, List.setIfInBounds_toArray, List.set_cons_zero, List.set_cons_succ])
      ((with_reducible apply E_run (v := .bool true)); rfl; rfl; (intro w M; go_simp <;> (first | omega | (simp; omega))); simp only [Act.put, List.setIfInBounds_toArray, List.set_cons_zero, List.set_cons_succ])
      ((with_reducible apply E_run); rfl; rfl; (intro w M; go_simp; (try go_ints); (try simp only [↓IntWalk.iteOmega]); (try with_reducible rfl)); simp only [Act.put, List.setIfInBounds_toArray, List.set_cons_zero, List.set_cons_succ])
      ((with_reducible apply E_run); rfl; rfl; (intro w M; go_simp; (try go_ints); (try simp only [↓IntWalk.iteOmega]); (try with_reducible rfl)); simp only [Act.put, List.setIfInBounds_toArray, List.set_cons_zero, List.set_cons_succ])
      ((with_reducible apply E_run); rfl; rfl; (intro w M; go_simp; (try go_ints); (try simp only [↓IntWalk.iteOmega]); (try with_reducible rfl)); simp only [Act.put, List.setIfInBounds_toArray, List.set_cons_zero, List.set_cons_succ])
      ((with_reducible apply E_run); rfl; rfl; (intro w M; exact run_loadCell (M.r0) rfl HR216.out Salg.underlying5 rfl); simp only [Act.put, List.setIfInBounds_toArray, List.set_cons_zero, List.set_cons_succ])
      refine E_call rfl Salg.func20 (by kernel_rfl) (by kernel_rfl) (args := [.pointer (some ⟨c, 0, none⟩)]) rfl ?_
      intro w1 K M
      clear K
      refine (HSEE.out _ M.kept).mono ?_
      rintro e w8 ⟨G1, sv1, mv1, rv1, rfl, xHV1, xHV2, xHV3, K⟩
      have HV1 := hid xHV1
      have HV2 := hid xHV2
      have HV3 := hid xHV3
      clear xHV1 xHV2 xHV3
      replace M := M.call K
      refine ⟨_, rfl, trivial, M, ?_⟩
      clear K
      simp only [Act.put, List.setIfInBounds_toArray, List.set_cons_zero, List.set_cons_succ]
      ((with_reducible apply E_run (v := .int .u8 (dp : Int))); rfl; rfl; (intro w M; exact run_field56 rfl HS.out HC.out); simp only [Act.put, List.setIfInBounds_toArray, List.set_cons_zero, List.set_cons_succ])
      ((with_reducible apply E_run (v := .bool false)); rfl; rfl; (intro w M; go_simp <;> (first | omega | (simp; omega) | simp)); simp only [Act.put, List.setIfInBounds_toArray, List.set_cons_zero, List.set_cons_succ])
      ((with_reducible apply E_run); rfl; rfl; (intro w M; go_simp; (try go_ints); (try simp only [↓IntWalk.iteOmega]); (try with_reducible rfl)); simp only [Act.put, List.setIfInBounds_toArray, List.set_cons_zero, List.set_cons_succ])
      refine E_nil ?_
      intro w9 K M
      clear K
      refine S_done ?_
      go_wp2_with fail
      refine (HSEE.out _ M.kept).mono ?_
      rintro e w10 ⟨G, sv, mv, rv, rfl, o1, o2, o3, K⟩
      replace M := M.call K
      clear K HSEE
      have HVO := hid (oneT (vwG_one (sb := st) (d := dp) (m := 0) (G := G) (sf := sf) (cl := cl) o1 o2 o3))
      have HVZ : Hid ((vwG st dp 0 G sf cl sv mv rv).toArray.size = 50) := hid (vq_size st dp 0 G sv mv rv HS.out HC.out)
      have HVZ2 : Hid ((Salg.prog.info? 56).map (·.size) = some (vwG st dp 0 G sf cl sv mv rv).toArray.size) := hid (by rw [HVZ.out]; exact size56)
      clear o1 o2 o3
      go_wp2_with (first
        | ((with_reducible apply L_allocA (d := 10) M); exact zero56; clear M; intro t10 w11 ht10 M; simp only [Act.put, List.setIfInBounds_toArray, List.set_cons_zero, List.set_cons_succ])
        | ((with_reducible apply W_storeK (b := t10) (vs := (vwG st dp 0 G sf cl sv mv rv).toArray)); rfl; rfl; exact M.r0; exact size56; exact HVZ.out; exact HVO.out; intro w12 K hr3; replace M := Mem.callPut (L1 := []) M (Or.inr ht10) K hr3; clear K hr3; simp only [List.cons_append, List.nil_append] at M))
      have HM12 := hid M
      have HPL2 := hid (HPL.out _ M.kept)
      clear HPL M
      generalize hQQ : (fun w2 => (DoneC c r row st dp sf cl w2 ∧ Kept [c] w4 w2) ∧ Kept [c, f] w12 w2) = QQ at *
      have HQQ := hid hQQ
      clear hQQ
      obtain ⟨μ, hμ⟩ := exists_measure (fun wr k => Play c QQ k wr)
      have HMU := hid hμ
      clear hμ
      go_loopw [] (fun wr => ∃ k, Play c QQ k wr) (fun wr => μ wr)
      case atStart => exact ⟨n0, HPL2.out⟩
      case round =>
        clear HPL2
        obtain ⟨k0, xk⟩ := hrel
        obtain ⟨xp, xl⟩ := HMU.out wr _ xk
        clear xk
        generalize hk : μ wr = k3 at *
        have HL := hid xl
        clear xl
        cases k3 with
        | zero =>
          have HPL : Hid (Play c QQ 0 wr) := xp
          have HK := hid hk
          clear xp hk
          go_wp2_with fail
          refine HPL.out.mono ?_
          rintro e w13 ⟨rfl, xq⟩
          rw [← HQQ.out] at xq
          obtain ⟨⟨xd, xk4⟩, xkf⟩ := xq
          have hrow7 : w13.heap[t7]? = some (.cells row.toArray 69 (0, 0)) := xk4.row HM4.out.r0 (by simp; exact htc)
          have hrow10 := xkf.row HM12.out.r0 (by simp; exact ⟨by omega, by omega⟩)
          have HDN := hid xd
          have HM13 : Hid (Mem w [] [(t7, .cells row.toArray 69 (0, 0))] w13) := hid (HM4.out.callK xk4 hwc (by simp; exact fun e => htc e.symm))
          clear xd xk4 xkf
          have HR10 := hid hrow10
          have HR7 := hid hrow7
          clear hrow10 hrow7
          go_wp2_with fail
          refine (HDN.out _ (Kept.refl _ _)).mono ?_
          rintro e w14 ⟨u, o, ma, rfl, hma, o1, o2, xE, K⟩
          have HEX := hid xE
          have HM14 := hid (HM13.out.callK K hwc (by simp; exact fun e => htc e.symm))
          have hrow7 := K.row HR7.out (by simp; exact htc)
          have hrow10 := K.row HR10.out (by simp; omega)
          have M := ((Mem.start w14 []).add hrow7 (by simp)).add hrow10 (by simp; omega)
          have HRCO := hid (rcM_one (u := u) (o := o) (ma := ma) o1 o2)
          have HRCZ : Hid ((rcM u o ma).toArray.size = 25) := hid (rcM_size hma)
          have HRCZ2 : Hid ((Salg.prog.info? 65).map (·.size) = some (rcM u o ma).toArray.size) := hid (by rw [HRCZ.out]; exact size65)
          clear xE K hrow7 hrow10 o1 o2 HDN HM13 HR10 HR7
          go_wp2_with (first
            | ((with_reducible apply L_allocA (d := 11) M); exact zero65; clear M; intro t11 w15 ht11 M; simp only [Act.put, List.setIfInBounds_toArray, List.set_cons_zero, List.set_cons_succ])
            | ((with_reducible apply W_storeK (b := t11) (vs := (rcM u o ma).toArray)); rfl; rfl; exact M.r0; exact size65; exact HRCZ.out; exact HRCO.out; intro w16 K hr3; replace M := Mem.callPut (L1 := []) M (Or.inr ht11) K hr3; clear K hr3; simp only [List.cons_append, List.nil_append] at M))
          replace HEX := hid (HEX.out.kept M.kept)
          refine S_region (by kernel_rfl) ?_
          replace HEX := hid (HEX.out.kept (Kept.refl [] _).drew)
          refine E_stage 0 8 [0, 1, 2, 3, 4, 5, 6, 7] (by kernel_rfl) M.drew ?_
          clear M
          simp only [List.filterMap_cons, List.filterMap_nil, List.getElem?_cons_zero, List.getElem?_cons_succ]
          ((with_reducible apply E_run); rfl; rfl; (intro w M; go_simp; (try go_ints); (try simp only [↓IntWalk.iteOmega]); (try with_reducible rfl)); simp only [Act.put, List.setIfInBounds_toArray, List.set_cons_zero, List.set_cons_succ])
          ((with_reducible apply E_run); rfl; rfl; (intro w M; exact run_loadAll M.r2 rfl Salg.underlying69 rfl HRS3.out); simp only [Act.put, List.setIfInBounds_toArray, List.set_cons_zero, List.set_cons_succ])
          ((with_reducible apply E_run); rfl; rfl; (intro w M; exact run_loadAll M.r1 rfl Salg.underlying56 rfl HVZ2.out); simp only [Act.put, List.setIfInBounds_toArray, List.set_cons_zero, List.set_cons_succ])
          ((with_reducible apply E_run); rfl; rfl; (intro w M; exact run_loadAll M.r0 rfl Salg.underlying65 rfl HRCZ2.out); simp only [Act.put, List.setIfInBounds_toArray, List.set_cons_zero, List.set_cons_succ])
          ((with_reducible apply E_run); rfl; rfl; (intro w M; go_simp; (try go_ints); (try simp only [↓IntWalk.iteOmega]); (try with_reducible rfl)); simp only [Act.put, List.setIfInBounds_toArray, List.set_cons_zero, List.set_cons_succ])
          refine E_call rfl Salg.func30 (by kernel_rfl) (by kernel_rfl) (args := [.pointer (some ⟨c, 0, none⟩)]) rfl ?_
          intro w1 K M
          replace HEX := hid (HEX.out.kept K)
          clear K
          refine (HEX.out _ (Kept.refl _ _)).mono ?_
          rintro e w17 ⟨ov, rfl, xHHO, K⟩
          have HHO := hid xHHO
          clear xHHO
          replace HEX := hid (HEX.out.kept K)
          replace M := M.call K
          refine ⟨_, rfl, trivial, M, ?_⟩
          clear K
          simp only [Act.put, List.setIfInBounds_toArray, List.set_cons_zero, List.set_cons_succ]
          refine E_call rfl Salg.func29 (by kernel_rfl) (by kernel_rfl) (args := [.int .u8 ((k : Int) % 8), .agg row.toArray, .agg (vwG st dp 0 G sf cl sv mv rv).toArray, .agg (rcM u o ma).toArray, ov]) rfl ?_
          intro w1 K M
          replace HEX := hid (HEX.out.kept K)
          replace HHO := hid (HHO.out.kept K)
          clear K
          refine (HHO.out.at HEM.out G sv mv rv).mono ?_
          rintro e w18 ⟨rfl, K⟩
          replace HEX := hid (HEX.out.kept K)
          replace HHO := hid (HHO.out.kept K)
          replace M := M.call K
          refine ⟨_, rfl, trivial, M, ?_⟩
          clear K
          simp only [Act.put, List.setIfInBounds_toArray, List.set_cons_zero, List.set_cons_succ]
          ((with_reducible apply E_run); rfl; rfl; (intro w M; go_simp; (try go_ints); (try simp only [↓IntWalk.iteOmega]); (try with_reducible rfl)); simp only [Act.put, List.setIfInBounds_toArray, List.set_cons_zero, List.set_cons_succ])
          refine E_nil ?_
          intro w19 K M
          replace HEX := hid (HEX.out.kept K)
          replace HHO := hid (HHO.out.kept K)
          clear K
          refine S_done ?_
          go_wp2_with fail
          go_ret
          exact ⟨rfl, HM14.out.kept.trans M.kept⟩
        | succ k3 =>
          have HPL : Hid (Play c QQ (k3 + 1) wr) := xp
          have HK := hid hk
          clear xp hk
          go_wp2_with fail
          refine HPL.out.mono ?_
          rintro e w13 ⟨rfl, xq⟩
          have HQ2 := hid xq
          clear xq
          go_wp2_with fail
          go_roundw
          case rel => exact ⟨k3, HQ2.out⟩
          case measure =>
            have h2 := (HMU.out w13 _ HQ2.out).2 k3 HQ2.out
            have h3 := HK.out
            omega
end Go.Proofs.YgcsalGreat

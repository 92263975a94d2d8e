/-
  The walk of (*yp.Chain).Apply at a call with data.
-/
import Derived.Test.YgcsalGreatCp18
import Derived.Test.YgcsalGreatCp28
import Derived.Test.YgcsalGreatSl38
set_option linter.unusedSimpArgs false
set_option linter.unusedVariables false
namespace Go.Proofs.YgcsalGreat
open Go.RowKit Go.Own
/-- The transaction's end with this status and output. -/
def EndZ (w : World) (c s : Nat) (bs : List Nat) : Prop := ∃ (GG : Nat) (la : List (List Nat)) (mo : Option Nat) (so : Option (Nat × Nat)) (R : Nat) (ds1 ds2 : List Nat), GG ≤ 200000 ∧ EndS w c s GG bs la mo so R ds1 ds2
theorem endS_kept {w w' : World} {c s G : Nat} {out : List Nat} {la : List (List Nat)} {mo : Option Nat} {so : Option (Nat × Nat)} {R : Nat} {ds1 ds2 : List Nat} (h : EndS w c s G out la mo so R ds1 ds2) (K : Kept [] w w') : EndS w' c s G out la mo so R ds1 ds2 := by
  obtain ⟨vz, wz, mv, rv, rt, lim, gv0, lf, pr, tv, h1, h2, h3, h4, h5, h6, h7, h8⟩ := h
  exact ⟨vz, wz, mv, rv, rt, lim, gv0, lf, pr, tv, K.row h1 (by simp), WorldW.kept h2 K, h3.kept K, h4.kept K, h5.kept K, h6.kept K, h7.kept K, h8⟩
theorem play_endZ {w0 w : World} {c s : Nat} {bs : List Nat} (h : EndZ w c s bs) (K : Kept [c] w0 w) : Play c (fun w2 => EndZ w2 c s bs ∧ Kept [c] w0 w2) 0 w := by
  obtain ⟨GG, la, mo, so, R, ds1, ds2, h1, h2⟩ := h
  have h3 := h2
  obtain ⟨vz, wz, mv, rv, rt, lim, gv0, lf, pr, tv, e1, _⟩ := h3
  refine (step_done c _ w e1 (by kernel_rfl)).mono ?_
  rintro e w' ⟨rfl, K2⟩
  exact ⟨rfl, ⟨GG, la, mo, so, R, ds1, ds2, h1, endS_kept h2 K2⟩, K.trans (K2.mono (by simp))⟩
theorem size49D (pd : Option Addr) (n0 cd : Nat) : (Salg.prog.info? 49).map (·.size) = some (txP (Value.slice pd n0 cd)).toArray.size := by kernel_rfl
set_option maxHeartbeats 4000000 in
set_option maxRecDepth 100000 in
theorem apply_D (c n n0 cd : Nat) (pd : Option Addr) (bs : List Nat) (w : World) (hcl : c < w.heap.size)
    (hB : ∀ w1, Kept [] w w1 → Calls Salg.prog 16 #[.pointer (some ⟨c, 0, none⟩), .agg (txP (Value.slice pd n0 cd)).toArray] w1 fun e w' => e = .returned (.int .u8 0) ∧ Play c (fun w2 => EndZ w2 c 0 bs ∧ Kept [c] w1 w2) n w') :
    Calls Salg.prog 35 #[.pointer (some ⟨c, 0, none⟩), .agg (txP (Value.slice pd n0 cd)).toArray] w fun e w' => ∃ (ou : Value) (U : Nat), e = .returned (.agg (rcL (n64 U) ou).toArray) ∧ NatV w' ou bs ∧ Kept [c] w w' := by
  have M := Mem.start w []
  have HB := hid hB
  clear hB
  go_enter Salg.func35, Salg.ntmps35
  go_wp2_with (first
    | ((with_reducible apply L_box M); rfl; clear M; intro t3 w1 ht3 M; simp only [Act.put, List.setIfInBounds_toArray, List.set_cons_zero, List.set_cons_succ])
    | ((with_reducible apply L_allocA (d := 4) M); exact zero65; clear M; intro t4 w2 ht4 M; simp only [Act.put, List.setIfInBounds_toArray, List.set_cons_zero, List.set_cons_succ])
    | ((with_reducible apply W_loadAll); rfl; exact M.r1; exact Salg.underlying49; rfl; exact size49D _ _ _; simp only [Act.put, List.setIfInBounds_toArray, List.set_cons_zero, List.set_cons_succ]))
  refine (HB.out _ M.kept).mono ?_
  rintro e w3 ⟨rfl, xP⟩
  have HP := hid xP
  have HM := hid M
  clear xP M HB
  generalize hQ : (fun w4 => EndZ w4 c 0 bs ∧ Kept [c] w2 w4) = Q at *
  have HQ := hid hQ
  clear hQ
  go_wp2_with fail
  obtain ⟨μ, hμ⟩ := exists_measure (fun wr k => Play c Q k wr)
  have HMU := hid hμ
  clear hμ
  go_loopw [] (fun wr => ∃ k, Play c Q k wr) (fun wr => μ wr)
  case atStart => exact ⟨n, HP.out⟩
  case round =>
    clear HP
    obtain ⟨k0, xk⟩ := hrel
    obtain ⟨xp, xl⟩ := HMU.out wr _ xk
    clear xk
    generalize hk : μ wr = k at *
    have HL := hid xl
    clear xl
    cases k with
    | zero =>
      have HPL : Hid (Play c Q 0 wr) := xp
      have HK := hid hk
      clear xp hk
      go_wp2_with fail
      refine HPL.out.mono ?_
      rintro e w4 ⟨rfl, xq⟩
      rw [← HQ.out] at xq
      obtain ⟨⟨GG, la, mo, so, R, ds1, ds2, hG, xe⟩, xk⟩ := xq
      have HE := hid xe
      have HKC := hid xk
      clear xe xk
      go_wp2_with fail
      refine (finish_ok c GG bs la mo so R ds1 ds2 w4 HE.out hG).mono ?_
      rintro e w5 ⟨ou, U, cs, va, nv, bv, cu, sl, nv2, bv2, cu2, nv3, bb, rfl, x1, x2, x3, x4, x5, x6, x7⟩
      have hct : t4 ≠ c := by omega
      have hr4 := x7.row (HKC.out.row HM.out.r0 (by simp; exact hct)) (by simp; exact hct)
      have HN : Hid (∀ t l, Obj.cells (rcL (n64 0) nilS).toArray 65 (0, 0) ≠ R8 t l) := not_bytes_at (cs := (rcL (n64 0) nilS).toArray) (tc := 65) (i := 4) (p := none) (n := 0) (m := 0) (by kernel_rfl)
      have HO := hid (rcL_one (u := n64 U) rfl x1.one)
      have HX1 := hid x1
      have HX2 := hid x2
      have HX3 := hid x3
      have HX4 := hid x4
      have HX5 := hid x5
      have HX6 := hid x6
      have HX7 := hid x7
      have HW := hid (HM.out.kept)
      clear x1 x2 x3 x4 x5 x6 x7
      go_wp2_with ((with_reducible apply W_storeK (b := t4) (vs := (rcL (n64 U) ou).toArray)); rfl; rfl; exact hr4; exact size65; rfl; exact HO.out; intro w6 KT hrt)
      refine ret_cell1 Salg.results35 rfl hrt Salg.underlying65 rfl size65 rfl ?_
      refine ⟨ou, U, rfl, HX1.out.keptC KT hr4 HN.out, ?_⟩
      have K1 : Kept [c] w w5 := ((HW.out.mono (by simp)).trans HKC.out).trans HX7.out
      exact K1.newer KT ht4
    | succ k =>
      have HPL : Hid (Play c Q (k + 1) wr) := xp
      clear xp
      go_wp2_with fail
      refine HPL.out.mono ?_
      rintro e w4 ⟨rfl, xq⟩
      have HQ2 := hid xq
      have HLK := hid hk
      clear xq hk
      go_wp2_with fail
      go_roundw
      case rel => exact ⟨k, HQ2.out⟩
      case measure =>
        have h2 := (HMU.out w4 _ HQ2.out).2 k HQ2.out
        have h3 := HLK.out
        omega
set_option maxHeartbeats 4000000 in
set_option maxRecDepth 100000 in
theorem apply_F (c n n0 cd : Nat) (pd : Option Addr) (bs : List Nat) (w : World) (hcl : c < w.heap.size)
    (hB : ∀ w1, Kept [] w w1 → Calls Salg.prog 16 #[.pointer (some ⟨c, 0, none⟩), .agg (txP (Value.slice pd n0 cd)).toArray] w1 fun e w' => e = .returned (.int .u8 0) ∧ Play c (fun w2 => EndZ w2 c 8 bs ∧ Kept [c] w1 w2) n w') :
    Calls Salg.prog 35 #[.pointer (some ⟨c, 0, none⟩), .agg (txP (Value.slice pd n0 cd)).toArray] w fun e w' => ∃ (ou : Value) (U : Nat), e = .returned (.agg (rcF (n64 U) ou).toArray) ∧ NatV w' ou bs ∧ Kept [c] w w' := by
  have M := Mem.start w []
  have HB := hid hB
  clear hB
  go_enter Salg.func35, Salg.ntmps35
  go_wp2_with (first
    | ((with_reducible apply L_box M); rfl; clear M; intro t3 w1 ht3 M; simp only [Act.put, List.setIfInBounds_toArray, List.set_cons_zero, List.set_cons_succ])
    | ((with_reducible apply L_allocA (d := 4) M); exact zero65; clear M; intro t4 w2 ht4 M; simp only [Act.put, List.setIfInBounds_toArray, List.set_cons_zero, List.set_cons_succ])
    | ((with_reducible apply W_loadAll); rfl; exact M.r1; exact Salg.underlying49; rfl; exact size49D _ _ _; simp only [Act.put, List.setIfInBounds_toArray, List.set_cons_zero, List.set_cons_succ]))
  refine (HB.out _ M.kept).mono ?_
  rintro e w3 ⟨rfl, xP⟩
  have HP := hid xP
  have HM := hid M
  clear xP M HB
  generalize hQ : (fun w4 => EndZ w4 c 8 bs ∧ Kept [c] w2 w4) = Q at *
  have HQ := hid hQ
  clear hQ
  go_wp2_with fail
  obtain ⟨μ, hμ⟩ := exists_measure (fun wr k => Play c Q k wr)
  have HMU := hid hμ
  clear hμ
  go_loopw [] (fun wr => ∃ k, Play c Q k wr) (fun wr => μ wr)
  case atStart => exact ⟨n, HP.out⟩
  case round =>
    clear HP
    obtain ⟨k0, xk⟩ := hrel
    obtain ⟨xp, xl⟩ := HMU.out wr _ xk
    clear xk
    generalize hk : μ wr = k at *
    have HL := hid xl
    clear xl
    cases k with
    | zero =>
      have HPL : Hid (Play c Q 0 wr) := xp
      have HK := hid hk
      clear xp hk
      go_wp2_with fail
      refine HPL.out.mono ?_
      rintro e w4 ⟨rfl, xq⟩
      rw [← HQ.out] at xq
      obtain ⟨⟨GG, la, mo, so, R, ds1, ds2, hG, xe⟩, xk⟩ := xq
      have HE := hid xe
      have HKC := hid xk
      clear xe xk
      go_wp2_with fail
      refine (finish_fail c GG bs la mo so R ds1 ds2 w4 HE.out hG).mono ?_
      rintro e w5 ⟨ou, U, cs, va, nv, bv, cu, sl, nv2, bv2, cu2, nv3, bb, rfl, x1, x2, x3, x4, x5, x6, x7⟩
      have hct : t4 ≠ c := by omega
      have hr4 := x7.row (HKC.out.row HM.out.r0 (by simp; exact hct)) (by simp; exact hct)
      have HN : Hid (∀ t l, Obj.cells (rcL (n64 0) nilS).toArray 65 (0, 0) ≠ R8 t l) := not_bytes_at (cs := (rcL (n64 0) nilS).toArray) (tc := 65) (i := 4) (p := none) (n := 0) (m := 0) (by kernel_rfl)
      have HO := hid (rcF_one (u := n64 U) rfl x1.one)
      have HX1 := hid x1
      have HX2 := hid x2
      have HX3 := hid x3
      have HX4 := hid x4
      have HX5 := hid x5
      have HX6 := hid x6
      have HX7 := hid x7
      have HW := hid (HM.out.kept)
      clear x1 x2 x3 x4 x5 x6 x7
      go_wp2_with ((with_reducible apply W_storeK (b := t4) (vs := (rcF (n64 U) ou).toArray)); rfl; rfl; exact hr4; exact size65; rfl; exact HO.out; intro w6 KT hrt)
      refine ret_cell1 Salg.results35 rfl hrt Salg.underlying65 rfl size65 rfl ?_
      refine ⟨ou, U, rfl, HX1.out.keptC KT hr4 HN.out, ?_⟩
      have K1 : Kept [c] w w5 := ((HW.out.mono (by simp)).trans HKC.out).trans HX7.out
      exact K1.newer KT ht4
    | succ k =>
      have HPL : Hid (Play c Q (k + 1) wr) := xp
      clear xp
      go_wp2_with fail
      refine HPL.out.mono ?_
      rintro e w4 ⟨rfl, xq⟩
      have HQ2 := hid xq
      have HLK := hid hk
      clear xq hk
      go_wp2_with fail
      go_roundw
      case rel => exact ⟨k, HQ2.out⟩
      case measure =>
        have h2 := (HMU.out w4 _ HQ2.out).2 k HQ2.out
        have h3 := HLK.out
        omega
end Go.Proofs.YgcsalGreat

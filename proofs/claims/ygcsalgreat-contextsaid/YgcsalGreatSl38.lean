/-
  The walk of (*yp.Chain).Apply, whatever its run does.
-/
import Derived.Test.YgcsalGreatSl36
set_option linter.unusedSimpArgs false
set_option linter.unusedVariables false
namespace Go.Own
theorem exists_least {P : Nat → Prop} : ∀ n, P n → ∃ k, P k ∧ ∀ j, P j → k ≤ j := by
  intro n
  induction n using Nat.strongRecOn with
  | ind n ih =>
    intro h
    by_cases hc : ∃ m, m < n ∧ P m
    · obtain ⟨m, hm, hp⟩ := hc
      exact ih m hm hp
    · refine ⟨n, h, fun j hj => ?_⟩
      rcases Nat.lt_or_ge j n with hl | hg
      · exact absurd ⟨j, hl, hj⟩ hc
      · exact hg
theorem exists_measure (P : World → Nat → Prop) : ∃ μ : World → Nat, ∀ w n, P w n → P w (μ w) ∧ ∀ j, P w j → μ w ≤ j := by
  have h : ∀ w, ∃ m, ∀ n, P w n → P w m ∧ ∀ j, P w j → m ≤ j := by
    intro w
    by_cases hc : ∃ n, P w n
    · obtain ⟨n, hn⟩ := hc
      obtain ⟨m, h1, h2⟩ := exists_least (P := P w) n hn
      exact ⟨m, fun _ _ => ⟨h1, h2⟩⟩
    · exact ⟨0, fun n hn => absurd ⟨n, hn⟩ hc⟩
  exact Classical.axiomOfChoice h
end Go.Own
namespace Go.Proofs.YgcsalGreat
open Go.RowKit Go.Own
/-- A run of n steps that ends with Q. -/
def Play (c : Nat) (Q : World → Prop) : Nat → World → Prop
  | 0, w => Calls Salg.prog 27 #[.pointer (some ⟨c, 0, none⟩)] w fun e w' => e = .returned (.bool false) ∧ Q w'
  | n + 1, w => Calls Salg.prog 27 #[.pointer (some ⟨c, 0, none⟩)] w fun e w' => e = .returned (.bool true) ∧ Play c Q n w'
theorem Play.step {c n : Nat} {Q P : World → Prop} {w : World} (h : Calls Salg.prog 27 #[.pointer (some ⟨c, 0, none⟩)] w fun e w' => e = .returned (.bool true) ∧ P w') (k : ∀ w', P w' → Play c Q n w') : Play c Q (n + 1) w :=
  h.mono fun e w' ⟨h1, h2⟩ => ⟨h1, k w' h2⟩
/-- The transaction's end with this output and these slots. -/
def EndX (w : World) (c : Nat) (bs : List Nat) (so : Option (Nat × Nat)) (ds1 ds2 : List Nat) : Prop := ∃ (GG : Nat) (la : List (List Nat)) (mo : Option Nat) (R : Nat), GG ≤ 200000 ∧ EndV w c GG bs la mo so R ds1 ds2
theorem endV_kept {w w' : World} {c G : Nat} {out : List Nat} {la : List (List Nat)} {mo : Option Nat} {so : Option (Nat × Nat)} {R : Nat} {ds1 ds2 : List Nat} (h : EndV w c G out la mo so R ds1 ds2) (K : Kept [] w w') : EndV w' c G out la mo so R ds1 ds2 := by
  obtain ⟨vz, wz, mv, rv, rt, lim, gv0, lf, pr, tv, h1, h2, h3, h4, h5, h6, h7, h8⟩ := h
  exact ⟨vz, wz, mv, rv, rt, lim, gv0, lf, pr, tv, K.row h1 (by simp), WorldW.kept h2 K, h3.kept K, h4.kept K, h5.kept K, h6.kept K, h7.kept K, h8⟩
theorem play_end {w0 w : World} {c : Nat} {bs : List Nat} {so : Option (Nat × Nat)} {ds1 ds2 : List Nat} (h : EndX w c bs so ds1 ds2) (K : Kept [c] w0 w) : Play c (fun w2 => EndX w2 c bs so ds1 ds2 ∧ Kept [c] w0 w2) 0 w := by
  obtain ⟨GG, la, mo, R, h1, h2⟩ := h
  have h3 := h2
  obtain ⟨vz, wz, mv, rv, rt, lim, gv0, lf, pr, tv, e1, _⟩ := h3
  refine (step_done c _ w e1 (by kernel_rfl)).mono ?_
  rintro e w' ⟨rfl, K2⟩
  exact ⟨rfl, ⟨GG, la, mo, R, h1, endV_kept h2 K2⟩, K.trans (K2.mono (by simp))⟩
theorem size49' : (Salg.prog.info? 49).map (·.size) = some (txP nilS).toArray.size := by kernel_rfl

set_option maxHeartbeats 4000000 in
set_option maxRecDepth 100000 in
theorem apply_ok (c n : Nat) (bs : List Nat) (so : Option (Nat × Nat)) (ds1 ds2 : List Nat) (w : World) (hcl : c < w.heap.size)
    (hB : ∀ w1, Kept [] w w1 → Calls Salg.prog 16 #[.pointer (some ⟨c, 0, none⟩), .agg (txP nilS).toArray] w1 fun e w' => e = .returned (.int .u8 0) ∧ Play c (fun w2 => EndX w2 c bs so ds1 ds2 ∧ Kept [c] w1 w2) n w') :
    Calls Salg.prog 35 #[.pointer (some ⟨c, 0, none⟩), .agg (txP nilS).toArray] w fun e w' => ∃ (ou : Value) (U : Nat) (cs : Array Value) (va nv bv cu sl nv2 bv2 cu2 nv3 bb : Value), e = .returned (.agg (rcL (n64 U) ou).toArray) ∧ NatV w' ou bs ∧ w'.heap[c]? = some (.cells cs 119 (0, 0)) ∧ cs[0]? = some va ∧ AcsV w' va (l3 nv bv cu sl nv2 bv2 cu2 nv3 bb) ∧ PartsW w' nv bv cu sl nv2 bv2 cu2 nv3 so ds1 ds2 ∧ NumV w' bb 340282366920938463463374607431768211456 ∧ Kept [c] w w' := by
  have M := Mem.start w []
  have HB := hid hB
  clear hB
  go_enter Salg.func35, Salg.ntmps35
  go_wp2_with (first
    | ((with_reducible apply L_box M); rfl; clear M; intro t3 w1 ht3 M; simp only [Act.put, List.setIfInBounds_toArray, List.set_cons_zero, List.set_cons_succ])
    | ((with_reducible apply L_allocA (d := 4) M); exact zero65; clear M; intro t4 w2 ht4 M; simp only [Act.put, List.setIfInBounds_toArray, List.set_cons_zero, List.set_cons_succ])
    | ((with_reducible apply W_loadAll); rfl; exact M.r1; exact Salg.underlying49; rfl; exact size49'; simp only [Act.put, List.setIfInBounds_toArray, List.set_cons_zero, List.set_cons_succ]))
  refine (HB.out _ M.kept).mono ?_
  rintro e w3 ⟨rfl, xP⟩
  have HP := hid xP
  have HM := hid M
  clear xP M HB
  generalize hQ : (fun w4 => EndX w4 c bs so ds1 ds2 ∧ Kept [c] w2 w4) = Q at *
  have HQ := hid hQ
  clear hQ
  go_wp2_with fail
  obtain ⟨μ, hμ⟩ := exists_measure (fun wr k => Play c Q k wr)
  have HMU := hid hμ
  clear hμ
  go_loopw [] (fun wr => ∃ k, Play c Q k wr) (fun wr => μ wr)
  case atStart => exact ⟨n, HP.out⟩
  case round =>
    clear HP
    obtain ⟨k0, xk⟩ := hrel
    obtain ⟨xp, xl⟩ := HMU.out wr _ xk
    clear xk
    generalize hk : μ wr = k at *
    have HL := hid xl
    clear xl
    cases k with
    | zero =>
      have HPL : Hid (Play c Q 0 wr) := xp
      have HK := hid hk
      clear xp hk
      go_wp2_with fail
      refine HPL.out.mono ?_
      rintro e w4 ⟨rfl, xq⟩
      rw [← HQ.out] at xq
      obtain ⟨⟨GG, la, mo, R, hG, xe⟩, xk⟩ := xq
      have HE := hid xe
      have HKC := hid xk
      clear xe xk
      go_wp2_with fail
      refine (finish_ok c GG bs la mo so R ds1 ds2 w4 HE.out hG).mono ?_
      rintro e w5 ⟨ou, U, cs, va, nv, bv, cu, sl, nv2, bv2, cu2, nv3, bb, rfl, x1, x2, x3, x4, x5, x6, x7⟩
      have hct : t4 ≠ c := by omega
      have hr4 := x7.row (HKC.out.row HM.out.r0 (by simp; exact hct)) (by simp; exact hct)
      have HN : Hid (∀ t l, Obj.cells (rcL (n64 0) nilS).toArray 65 (0, 0) ≠ R8 t l) := not_bytes_at (cs := (rcL (n64 0) nilS).toArray) (tc := 65) (i := 4) (p := none) (n := 0) (m := 0) (by kernel_rfl)
      have HO := hid (rcL_one (u := n64 U) rfl x1.one)
      have HX1 := hid x1
      have HX2 := hid x2
      have HX3 := hid x3
      have HX4 := hid x4
      have HX5 := hid x5
      have HX6 := hid x6
      have HX7 := hid x7
      have HW := hid (HM.out.kept)
      clear x1 x2 x3 x4 x5 x6 x7
      go_wp2_with ((with_reducible apply W_storeK (b := t4) (vs := (rcL (n64 U) ou).toArray)); rfl; rfl; exact hr4; exact size65; rfl; exact HO.out; intro w6 KT hrt)
      refine ret_cell1 Salg.results35 rfl hrt Salg.underlying65 rfl size65 rfl ?_
      refine ⟨ou, U, cs, va, nv, bv, cu, sl, nv2, bv2, cu2, nv3, bb, rfl, HX1.out.keptC KT hr4 HN.out, KT.row HX2.out (by simp; exact fun e => hct e.symm), HX3.out, HX4.out.keptC KT hr4 (by decide), HX5.out.keptC KT hr4 HN.out wtype65, HX6.out.keptC KT hr4 HN.out, ?_⟩
      have K1 : Kept [c] w w5 := ((HW.out.mono (by simp)).trans HKC.out).trans HX7.out
      exact K1.newer KT ht4
    | succ k =>
      have HPL : Hid (Play c Q (k + 1) wr) := xp
      clear xp
      go_wp2_with fail
      refine HPL.out.mono ?_
      rintro e w4 ⟨rfl, xq⟩
      have HQ2 := hid xq
      have HLK := hid hk
      clear xq hk
      go_wp2_with fail
      go_roundw
      case rel => exact ⟨k, HQ2.out⟩
      case measure =>
        have h2 := (HMU.out w4 _ HQ2.out).2 k HQ2.out
        have h3 := HLK.out
        omega
end Go.Proofs.YgcsalGreat

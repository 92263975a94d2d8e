/-
  The walk of law.madeBy.
-/
import Derived.Test.YgcsalGreatKc8
set_option linter.unusedSimpArgs false
set_option linter.unusedVariables false
namespace Go.Proofs.YgcsalGreat
open Go.RowKit Go.Own
set_option maxHeartbeats 4000000 in
set_option maxRecDepth 100000 in
theorem join_mid (e1 : Nat) (x0 : Value) (l0 : List Value) (x1 : Value) (l1 : List Value) (x2 : Value) (l2 : List Value) (w : World) (h0 : RowV w 5 x0 l0) (p0 : 0 < l0.length) (q0 : l0.length ≤ 200) (o0 : ∀ u ∈ l0, u.oneCell' = true) (h1 : RowV w e1 x1 l1) (p1 : 0 < l1.length) (q1 : l1.length ≤ 200) (o1 : ∀ u ∈ l1, u.oneCell' = true) (h2 : RowV w 5 x2 l2) (p2 : 0 < l2.length) (q2 : l2.length ≤ 200) (o2 : ∀ u ∈ l2, u.oneCell' = true) : Calls Salg.prog 32 #[x0, x1, x2, .slice none 0 0] w fun e w' => ∃ v, e = .returned v ∧ w'.ownsRow w.heap.size 5 1 v (l0.length + l1.length + l2.length) (l0 ++ l1 ++ l2) ∧ Kept [] w w' := by
  have M := Mem.start w []
  obtain ⟨g0, cap0, cur0, rfl, hg0, hc0, xc0⟩ := h0.pos p0
  have HX0 : Hid (∀ (j : Nat) (u : Value), l0[j]? = some u → cur0[0 + j]? = some u) := by
    intro j u hj
    rw [Nat.zero_add, xc0 j (List.getElem?_eq_some_iff.1 hj).1]
    exact hj
  have HI0 := hid o0
  clear h0 xc0 o0
  obtain ⟨g1, cap1, cur1, rfl, hg1, hc1, xc1⟩ := h1.pos p1
  have HX1 : Hid (∀ (j : Nat) (u : Value), l1[j]? = some u → cur1[0 + j]? = some u) := by
    intro j u hj
    rw [Nat.zero_add, xc1 j (List.getElem?_eq_some_iff.1 hj).1]
    exact hj
  have HI1 := hid o1
  clear h1 xc1 o1
  obtain ⟨g2, cap2, cur2, rfl, hg2, hc2, xc2⟩ := h2.pos p2
  have HX2 : Hid (∀ (j : Nat) (u : Value), l2[j]? = some u → cur2[0 + j]? = some u) := by
    intro j u hj
    rw [Nat.zero_add, xc2 j (List.getElem?_eq_some_iff.1 hj).1]
    exact hj
  have HI2 := hid o2
  clear h2 xc2 o2
  go_enter Salg.func32, Salg.ntmps32
  go_wp2_with (first
    | ((with_reducible apply W_makeCap (n := l0.length + l1.length + l2.length) M); rfl; rfl; (first | rfl | omega); omega; exact Salg.underlying40; exact info5; rfl; decide; (have hwB := M.kept.size); clear M; intro v9 w9 M xO hB0 KB; have HO := hid xO; (have hBw := hB0); clear xO hB0; simp only [Act.put, List.setIfInBounds_toArray, List.set_cons_zero, List.set_cons_succ])
    | ((with_reducible apply W_appendIt  (n := 0) (m := l0.length) (s := 1) (bn := g0) (so := 0) (xs := []) (news := l0) (cs := cur0) M); exact info5; exact Salg.underlying40; rfl; decide; decide; rfl; rfl; exact HO.out; omega; exact M.kept.row hg0 (by simp); (simp); exact HX0.out; exact HI0.out; exact hwB; exact hBw; (intro p hp; cases hp); clear M; intro v0 w0 M xO hb3 KA; replace HO := hid xO; replace hBw := hb3; clear xO hb3 KA; simp only [Act.put, List.setIfInBounds_toArray, List.set_cons_zero, List.set_cons_succ])
    | ((with_reducible apply W_appendIt  (n := 0 + l0.length) (m := l1.length) (s := 1) (bn := g1) (so := 0) (xs := [] ++ l0) (news := l1) (cs := cur1) M); exact info5; exact Salg.underlying40; rfl; decide; decide; rfl; rfl; exact HO.out; omega; exact M.kept.row hg1 (by simp); (simp); exact HX1.out; exact HI1.out; exact hwB; exact hBw; (intro p hp; cases hp); clear M; intro v1 w1 M xO hb3 KA; replace HO := hid xO; replace hBw := hb3; clear xO hb3 KA; simp only [Act.put, List.setIfInBounds_toArray, List.set_cons_zero, List.set_cons_succ])
    | ((with_reducible apply W_appendIt  (n := 0 + l0.length + l1.length) (m := l2.length) (s := 1) (bn := g2) (so := 0) (xs := [] ++ l0 ++ l1) (news := l2) (cs := cur2) M); exact info5; exact Salg.underlying40; rfl; decide; decide; rfl; rfl; exact HO.out; omega; exact M.kept.row hg2 (by simp); (simp); exact HX2.out; exact HI2.out; exact hwB; exact hBw; (intro p hp; cases hp); clear M; intro v2 w2 M xO hb3 KA; replace HO := hid xO; replace hBw := hb3; clear xO hb3 KA; simp only [Act.put, List.setIfInBounds_toArray, List.set_cons_zero, List.set_cons_succ])
    | ((with_reducible apply W_appendNil ); rfl; rfl; exact Salg.underlying40; exact some5; exact HO.out; simp only [Act.put, List.setIfInBounds_toArray, List.set_cons_zero, List.set_cons_succ]))
  go_ret
  refine ⟨v2, rfl, ?_, M.kept⟩
  have h := own_mono HO.out hwB
  simpa using h

set_option maxHeartbeats 4000000 in
set_option maxRecDepth 100000 in
theorem madeBy_0 (cr : List Nat) (w : World) (hl : cr.length = 20) (hs : Small cr) :
    Calls Salg.prog 108 #[A8 cr, n64 0] w fun e w' => e = .returned (A8 (hadr (214 :: 148 :: (cr ++ [128])))) ∧ Kept [] w w' := by
  have M := Mem.start w []
  have HL := hid hl
  have HSU := hid (fun b t cp cs w' hr hc => sum_any b 0 t cp cs (214 :: 148 :: (cr ++ [128])) w' hr hc (by simp [hl]) (by intro x hx; simp at hx; rcases hx with rfl | rfl | hx | rfl <;> first | omega | exact hs x hx))
  have HK := hid (ksum_len (214 :: 148 :: (cr ++ [128])))
  have HL2 := hid (hadr_len (214 :: 148 :: (cr ++ [128])))
  have HX := hid (ext_drop (ksum_len (214 :: 148 :: (cr ++ [128]))))
  clear hl hs
  go_enter Salg.func108, Salg.ntmps108
  go_wp2_with (first
    | ((with_reducible apply L_box (d := 2) M); rfl; clear M; intro b2 w1 hb2 M; simp only [Act.put, List.setIfInBounds_toArray, List.set_cons_zero, List.set_cons_succ])
    | ((with_reducible apply L_allocA (d := 4) M); exact zero45; clear M; intro b4 w2 hb4 M; simp only [Act.put, List.setIfInBounds_toArray, List.set_cons_zero, List.set_cons_succ]))
  go_loopw [5, 6] (fun dv iv wr => ∃ s : Nat, s ≤ 8 ∧ iv = .int .i64 ((8 * s : Nat) : Int) ∧ dv = nilS ∧ Mem w [] [(b4, R8 45 (List.replicate 20 0)), (b2, R8 45 cr)] wr) (fun _ iv _ => (intOf iv).toNat)
  case atStart => exact ⟨8, by omega, rfl, rfl, M⟩
  case round =>
    clear M
    obtain ⟨s, hs, rfl, rfl, M⟩ := hrel
    have hh : s = 0 ∨ s = 1 ∨ s = 2 ∨ s = 3 ∨ s = 4 ∨ s = 5 ∨ s = 6 ∨ s = 7 ∨ s = 8 := by omega
    rcases hh with h0 | hh
    · subst h0
      go_wp2_with (first
        | ((with_reducible apply W_buildN (d := 34) (vs := #[n8 128]) (e := 5) M); kernel_rfl; clear M; intro b34 w3 hb34 hq KB M; clear KB hq; simp only [Act.put, List.setIfInBounds_toArray, List.set_cons_zero, List.set_cons_succ])
        | ((with_reducible apply W_buildN (d := 49) (vs := #[n8 214, n8 148]) (e := 5) M); kernel_rfl; clear M; intro b49 w5 hb49 hq KB M; clear KB hq; simp only [Act.put, List.setIfInBounds_toArray, List.set_cons_zero, List.set_cons_succ])
        | ((with_reducible apply W_sliceArr (l := 0) (h := 20) (m := 20)); rfl; exact Salg.underlying45; exact size5; (first | exact Or.inl ⟨rfl, rfl⟩ | exact Or.inr ⟨_, _, _, rfl, rfl, by omega⟩); (first | exact Or.inl ⟨rfl, rfl⟩ | exact Or.inr ⟨_, _, _, rfl, rfl, by omega⟩); (first | exact Or.inl ⟨rfl, rfl⟩ | exact Or.inr ⟨_, _, _, rfl, rfl, by omega⟩); (first | exact Or.inl rfl | exact Or.inr rfl); omega; omega; omega; omega; (try simp only [Nat.zero_add, Nat.sub_zero]); simp only [Act.put, List.setIfInBounds_toArray, List.set_cons_zero, List.set_cons_succ]))
      have HJ := hid (join_mid 45 (.slice (some ⟨b49, 0, none⟩) 2 2) [n8 214, n8 148] (.slice (some ⟨b2, 0, none⟩) 20 20) (cr.map n8) (.slice (some ⟨b34, 0, none⟩) 1 1) [n8 128] _ (.inr ⟨b49, 2, _, rfl, M.r0, by decide, fun i _ => by simp⟩) (by decide) (by decide) (n8_one [214, 148]) (.inr ⟨b2, 20, _, by simp [HL.out], M.r3, by simp [HL.out], fun i _ => by simp⟩) (by simp [HL.out]) (by simp [HL.out]) (n8_one _) (.inr ⟨b34, 1, _, rfl, M.r1, by decide, fun i _ => by simp⟩) (by decide) (by decide) (n8_one [128]))
      refine HJ.out.mono ?_
      rintro e w7 ⟨jv, rfl, xO, K7⟩
      replace M := M.call K7
      obtain ⟨g, cap, cur, rfl, hg, hcap, hz, hcell⟩ := own_row xO (by simp)
      have e23 : ([n8 214, n8 148].length + (cr.map n8).length + [n8 128].length) = 23 := by simp [HL.out]
      rw [e23] at hcell ⊢
      have HCL := hid (join_cells (l := 214 :: 148 :: (cr ++ [128])) (n := 23) (by simp) (by simp [HL.out]) hcell)
      have HG := hid hg
      clear hcell hg xO K7 HJ e23 hz
      go_wp2_with fail
      refine (HSU.out g 5 cap cur _ HG.out HCL.out).mono ?_
      rintro e w8 ⟨rfl, K8⟩
      replace M := M.call K8
      clear K8
      go_wp2_with (first
        | ((with_reducible apply L_allocA (d := 10) M); exact zero22; clear M; intro b10 w3 hb10 M; simp only [Act.put, List.setIfInBounds_toArray, List.set_cons_zero, List.set_cons_succ])
        | ((with_reducible apply W_storeK (b := b10) (vs := ((ksum (214 :: 148 :: (cr ++ [128]))).map n8).toArray)); rfl; rfl; exact M.r0; exact size22; (simp [HK.out]); exact n8_ones _; intro w4 K hr3; replace M := Mem.callPut (L1 := []) (o' := R8 22 (ksum (214 :: 148 :: (cr ++ [128])))) M (Or.inr hb10) K hr3; clear K hr3; simp only [List.nil_append] at M)
        | ((with_reducible apply W_sliceArr (l := 12) (h := 32) (m := 32)); rfl; exact Salg.underlying22; exact size5; (first | exact Or.inl ⟨rfl, rfl⟩ | exact Or.inr ⟨_, _, _, rfl, rfl, by omega⟩); (first | exact Or.inl ⟨rfl, rfl⟩ | exact Or.inr ⟨_, _, _, rfl, rfl, by omega⟩); (first | exact Or.inl ⟨rfl, rfl⟩ | exact Or.inr ⟨_, _, _, rfl, rfl, by omega⟩); (first | exact Or.inl rfl | exact Or.inr rfl); omega; omega; omega; omega; (try simp only [Nat.zero_add, Nat.reduceSub]); simp only [Act.put, List.setIfInBounds_toArray, List.set_cons_zero, List.set_cons_succ])
        | ((with_reducible apply W_arrayAt); rfl; exact Salg.underlying45; omega; simp only [Act.put, List.setIfInBounds_toArray, List.set_cons_zero, List.set_cons_succ])
        | ((with_reducible apply W_loadX (o := 12) (n := 20)); rfl; exact M.r0; exact Salg.underlying45; rfl; exact size45; (simp [HK.out]); exact HX.out; simp only [Act.put, List.setIfInBounds_toArray, List.set_cons_zero, List.set_cons_succ])
        | ((with_reducible apply W_storeK (b := b4) (vs := ((hadr (214 :: 148 :: (cr ++ [128]))).map n8).toArray)); rfl; rfl; exact M.r3; exact size45; (simp [HL2.out]); exact n8_ones _; intro w4 K hr3; replace M := Mem.callPut (L1 := [_, _, _]) (o' := R8 45 (hadr (214 :: 148 :: (cr ++ [128])))) M (Or.inr hb4) K hr3; clear K hr3; simp only [List.cons_append, List.nil_append] at M))
      exact ret_cell1 Salg.results108 rfl M.r3 Salg.underlying45 rfl (by rw [size45]; simp [HL2.out]) rfl ⟨rfl, M.kept⟩
    · rcases hh with rfl | rfl | rfl | rfl | rfl | rfl | rfl | rfl
      all_goals
        go_wp2_with fail
        go_roundw
      case rel => exact ⟨0, by omega, by go_num, rfl, M⟩
      case measure => simp [intOf]
      case rel => exact ⟨1, by omega, by go_num, rfl, M⟩
      case measure => simp [intOf]
      case rel => exact ⟨2, by omega, by go_num, rfl, M⟩
      case measure => simp [intOf]
      case rel => exact ⟨3, by omega, by go_num, rfl, M⟩
      case measure => simp [intOf]
      case rel => exact ⟨4, by omega, by go_num, rfl, M⟩
      case measure => simp [intOf]
      case rel => exact ⟨5, by omega, by go_num, rfl, M⟩
      case measure => simp [intOf]
      case rel => exact ⟨6, by omega, by go_num, rfl, M⟩
      case measure => simp [intOf]
      case rel => exact ⟨7, by omega, by go_num, rfl, M⟩
      case measure => simp [intOf]

set_option maxHeartbeats 4000000 in
set_option maxRecDepth 100000 in
theorem madeBy_1 (cr : List Nat) (w : World) (hl : cr.length = 20) (hs : Small cr) :
    Calls Salg.prog 108 #[A8 cr, n64 1] w fun e w' => e = .returned (A8 (hadr (214 :: 148 :: (cr ++ [1])))) ∧ Kept [] w w' := by
  have M := Mem.start w []
  have HL := hid hl
  have HSU := hid (fun b t cp cs w' hr hc => sum_any b 0 t cp cs (214 :: 148 :: (cr ++ [1])) w' hr hc (by simp [hl]) (by intro x hx; simp at hx; rcases hx with rfl | rfl | hx | rfl <;> first | omega | exact hs x hx))
  have HK := hid (ksum_len (214 :: 148 :: (cr ++ [1])))
  have HL2 := hid (hadr_len (214 :: 148 :: (cr ++ [1])))
  have HX := hid (ext_drop (ksum_len (214 :: 148 :: (cr ++ [1]))))
  clear hl hs
  go_enter Salg.func108, Salg.ntmps108
  go_wp2_with (first
    | ((with_reducible apply L_box (d := 2) M); rfl; clear M; intro b2 w1 hb2 M; simp only [Act.put, List.setIfInBounds_toArray, List.set_cons_zero, List.set_cons_succ])
    | ((with_reducible apply L_allocA (d := 4) M); exact zero45; clear M; intro b4 w2 hb4 M; simp only [Act.put, List.setIfInBounds_toArray, List.set_cons_zero, List.set_cons_succ]))
  go_loopw [5, 6] (fun dv iv wr => ∃ s : Nat, s ≤ 8 ∧ iv = .int .i64 ((8 * s : Nat) : Int) ∧ ((s ≠ 0 ∧ dv = nilS) ∨ (s = 0 ∧ wr.ownsRow w.heap.size 5 1 dv 1 [n8 1])) ∧ Mem w [] [(b4, R8 45 (List.replicate 20 0)), (b2, R8 45 cr)] wr) (fun _ iv _ => (intOf iv).toNat)
  case atStart => exact ⟨8, by omega, rfl, Or.inl ⟨by omega, rfl⟩, M⟩
  case round =>
    clear M
    obtain ⟨s, hs, rfl, hor, M⟩ := hrel
    have hh : s = 0 ∨ s = 1 ∨ s = 2 ∨ s = 3 ∨ s = 4 ∨ s = 5 ∨ s = 6 ∨ s = 7 ∨ s = 8 := by omega
    rcases hh with h0 | hh
    · subst h0
      have hown := hor.resolve_left (fun h => h.1 rfl)
      obtain ⟨g8, cap8, cur8, rfl, hg8, hcap8, hz8, hcl8⟩ := own_row hown.2 (by decide)
      have HG8 := hid hg8
      have HC8 := hid hcl8
      clear hor hown hg8 hcl8 hz8
      go_wp2_with (first
        | ((with_reducible apply W_buildN (d := 49) (vs := #[n8 214, n8 148]) (e := 5) M); kernel_rfl; clear M; intro b49 w5 hb49 hq KB M; replace HG8 := hid (KB.row HG8.out (by simp)); clear KB hq; simp only [Act.put, List.setIfInBounds_toArray, List.set_cons_zero, List.set_cons_succ])
        | ((with_reducible apply W_sliceArr (l := 0) (h := 20) (m := 20)); rfl; exact Salg.underlying45; exact size5; (first | exact Or.inl ⟨rfl, rfl⟩ | exact Or.inr ⟨_, _, _, rfl, rfl, by omega⟩); (first | exact Or.inl ⟨rfl, rfl⟩ | exact Or.inr ⟨_, _, _, rfl, rfl, by omega⟩); (first | exact Or.inl ⟨rfl, rfl⟩ | exact Or.inr ⟨_, _, _, rfl, rfl, by omega⟩); (first | exact Or.inl rfl | exact Or.inr rfl); omega; omega; omega; omega; (try simp only [Nat.zero_add, Nat.sub_zero]); simp only [Act.put, List.setIfInBounds_toArray, List.set_cons_zero, List.set_cons_succ]))
      have HJ := hid (join_mid 45 (.slice (some ⟨b49, 0, none⟩) 2 2) [n8 214, n8 148] (.slice (some ⟨b2, 0, none⟩) 20 20) (cr.map n8) (.slice (some ⟨g8, 0, none⟩) 1 cap8) [n8 1] _ (.inr ⟨b49, 2, _, rfl, M.r0, by decide, fun i _ => by simp⟩) (by decide) (by decide) (n8_one [214, 148]) (.inr ⟨b2, 20, _, by simp [HL.out], M.r2, by simp [HL.out], fun i _ => by simp⟩) (by simp [HL.out]) (by simp [HL.out]) (n8_one _) (.inr ⟨g8, cap8, cur8, rfl, HG8.out, hcap8, HC8.out⟩) (by decide) (by decide) (n8_one [1]))
      refine HJ.out.mono ?_
      rintro e w7 ⟨jv, rfl, xO, K7⟩
      replace M := M.call K7
      obtain ⟨g, cap, cur, rfl, hg, hcap, hz, hcell⟩ := own_row xO (by simp)
      have e23 : ([n8 214, n8 148].length + (cr.map n8).length + [n8 1].length) = 23 := by simp [HL.out]
      rw [e23] at hcell ⊢
      have HCL := hid (join_cells (l := 214 :: 148 :: (cr ++ [1])) (n := 23) (by simp) (by simp [HL.out]) hcell)
      have HG := hid hg
      clear hcell hg xO K7 HJ e23 hz
      go_wp2_with fail
      refine (HSU.out g 5 cap cur _ HG.out HCL.out).mono ?_
      rintro e w8 ⟨rfl, K8⟩
      replace M := M.call K8
      clear K8
      go_wp2_with (first
        | ((with_reducible apply L_allocA (d := 10) M); exact zero22; clear M; intro b10 w3 hb10 M; simp only [Act.put, List.setIfInBounds_toArray, List.set_cons_zero, List.set_cons_succ])
        | ((with_reducible apply W_storeK (b := b10) (vs := ((ksum (214 :: 148 :: (cr ++ [1]))).map n8).toArray)); rfl; rfl; exact M.r0; exact size22; (simp [HK.out]); exact n8_ones _; intro w4 K hr3; replace M := Mem.callPut (L1 := []) (o' := R8 22 (ksum (214 :: 148 :: (cr ++ [1])))) M (Or.inr hb10) K hr3; clear K hr3; simp only [List.nil_append] at M)
        | ((with_reducible apply W_sliceArr (l := 12) (h := 32) (m := 32)); rfl; exact Salg.underlying22; exact size5; (first | exact Or.inl ⟨rfl, rfl⟩ | exact Or.inr ⟨_, _, _, rfl, rfl, by omega⟩); (first | exact Or.inl ⟨rfl, rfl⟩ | exact Or.inr ⟨_, _, _, rfl, rfl, by omega⟩); (first | exact Or.inl ⟨rfl, rfl⟩ | exact Or.inr ⟨_, _, _, rfl, rfl, by omega⟩); (first | exact Or.inl rfl | exact Or.inr rfl); omega; omega; omega; omega; (try simp only [Nat.zero_add, Nat.reduceSub]); simp only [Act.put, List.setIfInBounds_toArray, List.set_cons_zero, List.set_cons_succ])
        | ((with_reducible apply W_arrayAt); rfl; exact Salg.underlying45; omega; simp only [Act.put, List.setIfInBounds_toArray, List.set_cons_zero, List.set_cons_succ])
        | ((with_reducible apply W_loadX (o := 12) (n := 20)); rfl; exact M.r0; exact Salg.underlying45; rfl; exact size45; (simp [HK.out]); exact HX.out; simp only [Act.put, List.setIfInBounds_toArray, List.set_cons_zero, List.set_cons_succ])
        | ((with_reducible apply W_storeK (b := b4) (vs := ((hadr (214 :: 148 :: (cr ++ [1]))).map n8).toArray)); rfl; rfl; exact M.r2; exact size45; (simp [HL2.out]); exact n8_ones _; intro w4 K hr3; replace M := Mem.callPut (L1 := [_, _]) (o' := R8 45 (hadr (214 :: 148 :: (cr ++ [1])))) M (Or.inr hb4) K hr3; clear K hr3; simp only [List.cons_append, List.nil_append] at M))
      exact ret_cell1 Salg.results108 rfl M.r2 Salg.underlying45 rfl (by rw [size45]; simp [HL2.out]) rfl ⟨rfl, M.kept⟩
    · have hown := hor.resolve_right (fun h => by omega)
      obtain ⟨_, rfl⟩ := hown
      clear hor
      rcases hh with rfl | hh
      · go_wp2_with (first
          | ((with_reducible apply W_buildN (d := 29) (vs := #[n8 1]) (e := 5) M); kernel_rfl; clear M; intro b29 w3 hb29 hq KB M; clear KB hq; simp only [Act.put, List.setIfInBounds_toArray, List.set_cons_zero, List.set_cons_succ])
          | ((with_reducible apply W_appendIt (d := 30) (base := w.heap.size) (n := 0) (m := 1) (s := 1) (bn := b29) (so := 0) (xs := []) (news := [n8 1]) (cs := #[n8 1]) M.tail); exact info5; exact Salg.underlying40; rfl; decide; decide; rfl; rfl; exact own_nil _ _ _ _; decide; exact M.r0; rfl; exact one_news _; exact one_one rfl; exact Nat.le_refl _; exact M.kept.size; (intro p hp h; cases h); clear M; intro VV w4 M xO hb3 KA; have HO := hid xO; clear xO hb3 KA; simp only [Act.put, List.setIfInBounds_toArray, List.set_cons_zero, List.set_cons_succ]))
        go_roundw
        case rel => exact ⟨0, by omega, by go_num, Or.inr ⟨rfl, HO.out⟩, M⟩
        case measure => simp [intOf]
      · rcases hh with rfl | rfl | rfl | rfl | rfl | rfl | rfl
        all_goals
          go_wp2_with fail
          go_roundw
        case rel => exact ⟨1, by omega, by go_num, Or.inl ⟨by omega, rfl⟩, M⟩
        case measure => simp [intOf]
        case rel => exact ⟨2, by omega, by go_num, Or.inl ⟨by omega, rfl⟩, M⟩
        case measure => simp [intOf]
        case rel => exact ⟨3, by omega, by go_num, Or.inl ⟨by omega, rfl⟩, M⟩
        case measure => simp [intOf]
        case rel => exact ⟨4, by omega, by go_num, Or.inl ⟨by omega, rfl⟩, M⟩
        case measure => simp [intOf]
        case rel => exact ⟨5, by omega, by go_num, Or.inl ⟨by omega, rfl⟩, M⟩
        case measure => simp [intOf]
        case rel => exact ⟨6, by omega, by go_num, Or.inl ⟨by omega, rfl⟩, M⟩
        case measure => simp [intOf]
        case rel => exact ⟨7, by omega, by go_num, Or.inl ⟨by omega, rfl⟩, M⟩
        case measure => simp [intOf]
end Go.Proofs.YgcsalGreat

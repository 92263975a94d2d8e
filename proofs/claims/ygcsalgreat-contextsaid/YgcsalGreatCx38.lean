/-
  The walk of law.Stage on three codes.
-/
import Derived.Test.YgcsalGreatCp38
set_option linter.unusedSimpArgs false
set_option linter.unusedVariables false
namespace Go.Proofs.YgcsalGreat
open Go.RowKit Go.Own

set_option maxHeartbeats 4000000 in
set_option maxRecDepth 100000 in
theorem stage_3 (b cap : Nat) (cur : Array Value) (g1 g2 g3 : Option Addr) (n1 n2 n3 cap1 cap2 cap3 : Nat) (ds1 ds2 ds3 : List Nat) (w : World) (hb : w.heap[b]? = some (.cells cur 40 (0, 0))) (hx0 : cur[0]? = some (.slice g1 n1 cap1)) (hx1 : cur[1]? = some (.slice g2 n2 cap2)) (hx2 : cur[2]? = some (.slice g3 n3 cap3)) (hcb1 : ∀ w', Kept [] w w' → Calls Salg.prog 23 #[.slice g1 n1 cap1] w' fun e w'' => ∃ u, e = .returned u ∧ NatV w'' u ds1 ∧ Kept [] w' w'') (hcb2 : ∀ w', Kept [] w w' → Calls Salg.prog 23 #[.slice g2 n2 cap2] w' fun e w'' => ∃ u, e = .returned u ∧ NatV w'' u ds2 ∧ Kept [] w' w'') (hcb3 : ∀ w', Kept [] w w' → Calls Salg.prog 23 #[.slice g3 n3 cap3] w' fun e w'' => ∃ u, e = .returned u ∧ NatV w'' u ds3 ∧ Kept [] w' w'') (hk1 : ds1.length = n1) (q1 : n1 ≤ 256) (hk2 : ds2.length = n2) (q2 : n2 ≤ 256) (hk3 : ds3.length = n3) (q3 : n3 ≤ 256) :
    Calls Salg.prog 14 #[.slice (some ⟨b, 0, none⟩) 3 cap] w fun e w' => ∃ r u1 u2 u3, e = .returned r ∧ OasV w' r [oaN 1 u1, oaN 2 u2, oaN 3 u3, oaB] ∧ NatV w' u1 ds1 ∧ NatV w' u2 ds2 ∧ NatV w' u3 ds3 ∧ Kept [] w w' := by
  have M := Mem.start w []
  have HCB1 := hid hcb1
  have HLN1 : Hid (n1 ≤ 256) := q1
  have HK1 := hid hk1
  have HX0 := hid hx0
  have d1 : decide ((n1 : Int) ≤ 256) = true := by simp; omega
  clear hcb1 hk1 hx0
  have HCB2 := hid hcb2
  have HLN2 : Hid (n2 ≤ 256) := q2
  have HK2 := hid hk2
  have HX1 := hid hx1
  have d2 : decide ((n2 : Int) ≤ 256) = true := by simp; omega
  clear hcb2 hk2 hx1
  have HCB3 := hid hcb3
  have HLN3 : Hid (n3 ≤ 256) := q3
  have HK3 := hid hk3
  have HX2 := hid hx2
  have d3 : decide ((n3 : Int) ≤ 256) = true := by simp; omega
  clear hcb3 hk3 hx2
  go_enter Salg.func14, Salg.ntmps14
  go_wp2_with fail
  go_loopw [3, 9] (fun sv iv wr => (iv = .int .i64 0 ∧ sv = nilS ∧ Mem w [] [] wr) ∨ (iv = .int .i64 1 ∧ ∃ (u1 : Value) (base : Nat), Mem w [] [] wr ∧ w.heap.size ≤ base ∧ base ≤ wr.heap.size ∧ wr.ownsRow base 123 55 sv 1 (oaN 1 u1).cells ∧ NatV wr u1 ds1) ∨ (iv = .int .i64 2 ∧ ∃ (u1 u2 : Value) (base : Nat), Mem w [] [] wr ∧ w.heap.size ≤ base ∧ base ≤ wr.heap.size ∧ wr.ownsRow base 123 55 sv 2 ((oaN 1 u1).cells ++ (oaN 2 u2).cells) ∧ NatV wr u1 ds1 ∧ NatV wr u2 ds2) ∨ (iv = .int .i64 3 ∧ ∃ (u1 u2 u3 : Value) (base : Nat), Mem w [] [] wr ∧ w.heap.size ≤ base ∧ base ≤ wr.heap.size ∧ wr.ownsRow base 123 55 sv 3 ((oaN 1 u1).cells ++ (oaN 2 u2).cells ++ (oaN 3 u3).cells) ∧ NatV wr u1 ds1 ∧ NatV wr u2 ds2 ∧ NatV wr u3 ds3)) (fun _ iv _ => (3 - intOf iv).toNat)
  case atStart => exact .inl ⟨rfl, rfl, M⟩
  case round =>
    clear M
    rcases hrel with ⟨rfl, rfl, M⟩ | ⟨rfl, u1, base, M, hb1, hb2, xO, xN⟩ | ⟨rfl, u1, u2, base, M, hb1, hb2, xO, xN, xN2⟩ | ⟨rfl, u1, u2, u3, base, M, hb1, hb2, xO, xN, xN2, xN3⟩
    · skip
      have MW := M
      have HB := hid (M.kept.row hb (by simp))
      have HKW := hid M.kept
      obtain ⟨B, hB⟩ : ∃ B : Nat, B = wr.heap.size := ⟨_, rfl⟩
      have hwB : w.heap.size ≤ B := by rw [hB]; exact M.kept.size
      replace M := M.here
      go_wp2_with ((with_reducible apply W_loadCell); rfl; exact M.kept.row HB.out (by simp); exact HX0.out; exact Salg.underlying40; rfl; simp only [Act.put, List.setIfInBounds_toArray, List.set_cons_zero, List.set_cons_succ])
      refine (addrNo_any 1 _).mono ?_
      rintro e w2 ⟨rfl, K⟩
      replace M := M.call K
      clear K
      go_wp2_with (first
        | ((with_reducible apply L_allocA (d := 6) M); exact zero123; clear M; intro c1 w1 hc1 M; simp only [Act.put, List.setIfInBounds_toArray, List.set_cons_zero, List.set_cons_succ])
        | ((with_reducible apply W_storeK (b := c1) (vs := (oaN 1 nilS).cells.toArray)); rfl; exact congrArg Value.agg (by kernel_rfl); exact M.r0; exact size123; rfl; exact oneL rfl; intro w3 K hr3; replace M := Mem.callPut (L1 := []) M (Or.inr hc1) K hr3; clear K hr3; simp only [List.nil_append] at M))
      refine (HCB1.out _ (HKW.out.trans M.kept)).mono ?_
      rintro e w4 ⟨u1, rfl, xHU1, K⟩
      have HU1 := hid xHU1
      replace M := M.call K
      clear K xHU1
      have HU1c := hid HU1.out.one
      have HNB := hid (not_bytes_at (cs := (oaN 1 nilS).cells.toArray) (tc := 123) (i := 53) (p := none) (n := 0) (m := 0) (by kernel_rfl))
      go_wp2_with (first
        | ((with_reducible apply W_stV (b := c1) (o := 53) (v := u1)); rfl; rfl; exact HU1c.out; exact M.r0; exact size40; (rw [oaN_size]; decide); intro w7 K hr3; rw [oaN_set] at hr3; replace HU1 := hid (HU1.out.keptC K M.r0 HNB.out); replace M := Mem.callPut (L1 := []) M (Or.inr hc1) K hr3; clear K hr3; simp only [List.nil_append] at M)
        | ((with_reducible apply W_loadAll); rfl; exact M.r0; exact Salg.underlying123; rfl; (rw [oaN_size]; exact size123); simp only [Act.put, List.setIfInBounds_toArray, List.set_cons_zero, List.set_cons_succ])
        | ((with_reducible apply W_buildIt (vs := (oaN 1 u1).cells.toArray) (s := 55) M); rfl; rfl; exact Salg.underlying38; exact size123; exact zero123s; rfl; decide; decide; clear M; intro bn w6 hbn hbn2 KB M; have MT := MW.call M.kept; have hbw := Nat.le_trans (Nat.le_of_eq hB) M.kept.size; replace HU1 := hid (HU1.out.kept KB); clear KB hbn2; simp only [Act.put, List.setIfInBounds_toArray, List.set_cons_zero, List.set_cons_succ])
        | ((with_reducible apply W_appendIt (base := B) (n := 0) (m := 1) (s := 55) (bn := bn) (so := 0) (xs := []) (news := (oaN 1 u1).cells) (cs := (oaN 1 u1).cells.toArray) MT); exact info123; exact Salg.underlying38; rfl; decide; decide; rfl; rfl; exact own_nil _ _ _ _; decide; exact M.r0; rfl; exact cells_news _; exact (oaN_one 1 HU1c.out); exact hwB; exact hbw; (intro p hp; cases hp); clear M; intro VV w8 M xO hb3 KA; replace HU1 := hid (HU1.out.kept KA); have HOW := hid xO; clear xO KA; simp only [Act.put, List.setIfInBounds_toArray, List.set_cons_zero, List.set_cons_succ]))
      go_roundw
      case rel => exact .inr (.inl ⟨by go_num, u1, B, M, hwB, hb3, HOW.out, HU1.out⟩)
      case measure => decide
    · have HO := hid xO
      have HU1 := hid xN
      clear xO xN
      have MW := M
      have HB := hid (M.kept.row hb (by simp))
      have HKW := hid M.kept
      obtain ⟨B, hB⟩ : ∃ B : Nat, B = wr.heap.size := ⟨_, rfl⟩
      have hwB : w.heap.size ≤ B := by rw [hB]; exact M.kept.size
      replace M := M.here
      go_wp2_with ((with_reducible apply W_loadCell); rfl; exact M.kept.row HB.out (by simp); exact HX1.out; exact Salg.underlying40; rfl; simp only [Act.put, List.setIfInBounds_toArray, List.set_cons_zero, List.set_cons_succ])
      refine (addrNo_any 2 _).mono ?_
      rintro e w2 ⟨rfl, K⟩
      replace M := M.call K
      clear K
      go_wp2_with (first
        | ((with_reducible apply L_allocA (d := 6) M); exact zero123; clear M; intro c1 w1 hc1 M; simp only [Act.put, List.setIfInBounds_toArray, List.set_cons_zero, List.set_cons_succ])
        | ((with_reducible apply W_storeK (b := c1) (vs := (oaN 2 nilS).cells.toArray)); rfl; exact congrArg Value.agg (by kernel_rfl); exact M.r0; exact size123; rfl; exact oneL rfl; intro w3 K hr3; replace M := Mem.callPut (L1 := []) M (Or.inr hc1) K hr3; clear K hr3; simp only [List.nil_append] at M))
      refine (HCB2.out _ (HKW.out.trans M.kept)).mono ?_
      rintro e w4 ⟨u2, rfl, xHU2, K⟩
      have HU2 := hid xHU2
      replace M := M.call K
      clear K xHU2
      have HU1c := hid HU2.out.one
      have HNB := hid (not_bytes_at (cs := (oaN 2 nilS).cells.toArray) (tc := 123) (i := 53) (p := none) (n := 0) (m := 0) (by kernel_rfl))
      go_wp2_with (first
        | ((with_reducible apply W_stV (b := c1) (o := 53) (v := u2)); rfl; rfl; exact HU1c.out; exact M.r0; exact size40; (rw [oaN_size]; decide); intro w7 K hr3; rw [oaN_set] at hr3; replace HU2 := hid (HU2.out.keptC K M.r0 HNB.out); replace M := Mem.callPut (L1 := []) M (Or.inr hc1) K hr3; clear K hr3; simp only [List.nil_append] at M)
        | ((with_reducible apply W_loadAll); rfl; exact M.r0; exact Salg.underlying123; rfl; (rw [oaN_size]; exact size123); simp only [Act.put, List.setIfInBounds_toArray, List.set_cons_zero, List.set_cons_succ])
        | ((with_reducible apply W_buildIt (vs := (oaN 2 u2).cells.toArray) (s := 55) M); rfl; rfl; exact Salg.underlying38; exact size123; exact zero123s; rfl; decide; decide; clear M; intro bn w6 hbn hbn2 KB M; have MT := MW.call M.kept; replace HU1 := hid (HU1.out.kept M.kept); replace HO := hid (own_kept HO.out M.kept); have hbw := Nat.le_trans hb2 M.kept.size; replace HU2 := hid (HU2.out.kept KB); clear KB hbn2; simp only [Act.put, List.setIfInBounds_toArray, List.set_cons_zero, List.set_cons_succ])
        | ((with_reducible apply W_appendIt (base := base) (n := 1) (m := 1) (s := 55) (bn := bn) (so := 0) (xs := (oaN 1 u1).cells) (news := (oaN 2 u2).cells) (cs := (oaN 2 u2).cells.toArray) MT); exact info123; exact Salg.underlying38; rfl; decide; decide; rfl; rfl; exact HO.out; decide; exact M.r0; rfl; exact cells_news _; exact (oaN_one 2 HU1c.out); exact hb1; exact hbw; (intro p hp; cases hp); clear M; intro VV w8 M xO hb3 KA; replace HU1 := hid (HU1.out.keptO KA HO.out (k := 54) (p := none) (a := 0) (b := 0) (by kernel_rfl)); replace HU2 := hid (HU2.out.keptO KA HO.out (k := 54) (p := none) (a := 0) (b := 0) (by kernel_rfl)); have HOW := hid xO; clear xO KA; simp only [Act.put, List.setIfInBounds_toArray, List.set_cons_zero, List.set_cons_succ]))
      go_roundw
      case rel => exact .inr (.inr (.inl ⟨by go_num, u1, u2, base, M, hb1, hb3, HOW.out, HU1.out, HU2.out⟩))
      case measure => decide
    · have HO := hid xO
      have HU1 := hid xN
      have HU2 := hid xN2
      clear xO xN xN2
      have MW := M
      have HB := hid (M.kept.row hb (by simp))
      have HKW := hid M.kept
      obtain ⟨B, hB⟩ : ∃ B : Nat, B = wr.heap.size := ⟨_, rfl⟩
      have hwB : w.heap.size ≤ B := by rw [hB]; exact M.kept.size
      replace M := M.here
      go_wp2_with ((with_reducible apply W_loadCell); rfl; exact M.kept.row HB.out (by simp); exact HX2.out; exact Salg.underlying40; rfl; simp only [Act.put, List.setIfInBounds_toArray, List.set_cons_zero, List.set_cons_succ])
      refine (addrNo_any 3 _).mono ?_
      rintro e w2 ⟨rfl, K⟩
      replace M := M.call K
      clear K
      go_wp2_with (first
        | ((with_reducible apply L_allocA (d := 6) M); exact zero123; clear M; intro c1 w1 hc1 M; simp only [Act.put, List.setIfInBounds_toArray, List.set_cons_zero, List.set_cons_succ])
        | ((with_reducible apply W_storeK (b := c1) (vs := (oaN 3 nilS).cells.toArray)); rfl; exact congrArg Value.agg (by kernel_rfl); exact M.r0; exact size123; rfl; exact oneL rfl; intro w3 K hr3; replace M := Mem.callPut (L1 := []) M (Or.inr hc1) K hr3; clear K hr3; simp only [List.nil_append] at M))
      refine (HCB3.out _ (HKW.out.trans M.kept)).mono ?_
      rintro e w4 ⟨u3, rfl, xHU3, K⟩
      have HU3 := hid xHU3
      replace M := M.call K
      clear K xHU3
      have HU1c := hid HU3.out.one
      have HNB := hid (not_bytes_at (cs := (oaN 3 nilS).cells.toArray) (tc := 123) (i := 53) (p := none) (n := 0) (m := 0) (by kernel_rfl))
      go_wp2_with (first
        | ((with_reducible apply W_stV (b := c1) (o := 53) (v := u3)); rfl; rfl; exact HU1c.out; exact M.r0; exact size40; (rw [oaN_size]; decide); intro w7 K hr3; rw [oaN_set] at hr3; replace HU3 := hid (HU3.out.keptC K M.r0 HNB.out); replace M := Mem.callPut (L1 := []) M (Or.inr hc1) K hr3; clear K hr3; simp only [List.nil_append] at M)
        | ((with_reducible apply W_loadAll); rfl; exact M.r0; exact Salg.underlying123; rfl; (rw [oaN_size]; exact size123); simp only [Act.put, List.setIfInBounds_toArray, List.set_cons_zero, List.set_cons_succ])
        | ((with_reducible apply W_buildIt (vs := (oaN 3 u3).cells.toArray) (s := 55) M); rfl; rfl; exact Salg.underlying38; exact size123; exact zero123s; rfl; decide; decide; clear M; intro bn w6 hbn hbn2 KB M; have MT := MW.call M.kept; replace HU1 := hid (HU1.out.kept M.kept); replace HU2 := hid (HU2.out.kept M.kept); replace HO := hid (own_kept HO.out M.kept); have hbw := Nat.le_trans hb2 M.kept.size; replace HU3 := hid (HU3.out.kept KB); clear KB hbn2; simp only [Act.put, List.setIfInBounds_toArray, List.set_cons_zero, List.set_cons_succ])
        | ((with_reducible apply W_appendIt (base := base) (n := 2) (m := 1) (s := 55) (bn := bn) (so := 0) (xs := ((oaN 1 u1).cells ++ (oaN 2 u2).cells)) (news := (oaN 3 u3).cells) (cs := (oaN 3 u3).cells.toArray) MT); exact info123; exact Salg.underlying38; rfl; decide; decide; rfl; rfl; exact HO.out; decide; exact M.r0; rfl; exact cells_news _; exact (oaN_one 3 HU1c.out); exact hb1; exact hbw; (intro p hp; cases hp); clear M; intro VV w8 M xO hb3 KA; replace HU1 := hid (HU1.out.keptO KA HO.out (k := 54) (p := none) (a := 0) (b := 0) (by kernel_rfl)); replace HU2 := hid (HU2.out.keptO KA HO.out (k := 54) (p := none) (a := 0) (b := 0) (by kernel_rfl)); replace HU3 := hid (HU3.out.keptO KA HO.out (k := 54) (p := none) (a := 0) (b := 0) (by kernel_rfl)); have HOW := hid xO; clear xO KA; simp only [Act.put, List.setIfInBounds_toArray, List.set_cons_zero, List.set_cons_succ]))
      go_roundw
      case rel => exact .inr (.inr (.inr ⟨by go_num, u1, u2, u3, base, M, hb1, hb3, HOW.out, HU1.out, HU2.out, HU3.out⟩))
      case measure => decide
    · have HO := hid xO
      have HU1 := hid xN
      have HU2 := hid xN2
      have HU3 := hid xN3
      clear xO xN xN2 xN3
      go_wp2_with fail
      refine (sender_any _).mono ?_
      rintro e w2 ⟨rfl, K⟩
      replace HO := hid (own_kept HO.out K)
      replace HU1 := hid (HU1.out.kept K)
      replace HU2 := hid (HU2.out.kept K)
      replace HU3 := hid (HU3.out.kept K)
      replace hb2 := Nat.le_trans hb2 K.size
      replace M := M.call K
      clear K
      go_wp2_with (first
        | ((with_reducible apply W_buildIt (vs := oaB.cells.toArray) (s := 55) M); rfl; kernel_rfl; exact Salg.underlying38; exact size123; exact zero123s; rfl; decide; decide; clear M; intro bn w6 hbn hbn2 KB M; replace HO := hid (own_kept HO.out KB); replace HU1 := hid (HU1.out.kept KB); replace HU2 := hid (HU2.out.kept KB); replace HU3 := hid (HU3.out.kept KB); replace hb2 := Nat.le_trans hb2 KB.size; clear KB hbn2; simp only [Act.put, List.setIfInBounds_toArray, List.set_cons_zero, List.set_cons_succ])
        | ((with_reducible apply W_appendIt (base := base) (n := 3) (m := 1) (s := 55) (bn := bn) (so := 0) (xs := (oaN 1 u1).cells ++ (oaN 2 u2).cells ++ (oaN 3 u3).cells) (news := oaB.cells) (cs := oaB.cells.toArray) M.tail); exact info123; exact Salg.underlying38; rfl; decide; decide; rfl; rfl; exact HO.out; decide; exact M.r0; rfl; exact cells_news _; exact (one_list rfl); exact hb1; exact hb2; (intro p hp; cases hp); clear M; intro VV w8 M xO hb3 KA; replace HU1 := hid (HU1.out.keptO KA HO.out (k := 54) (p := none) (a := 0) (b := 0) (by kernel_rfl)); replace HU2 := hid (HU2.out.keptO KA HO.out (k := 54) (p := none) (a := 0) (b := 0) (by kernel_rfl)); replace HU3 := hid (HU3.out.keptO KA HO.out (k := 54) (p := none) (a := 0) (b := 0) (by kernel_rfl)); have HOW := hid xO; clear xO KA; simp only [Act.put, List.setIfInBounds_toArray, List.set_cons_zero, List.set_cons_succ]))
      go_ret
      refine ⟨_, u1, u2, u3, rfl, ⟨own_mono HOW.out (Nat.zero_le _), ?_⟩, HU1.out, HU2.out, HU3.out, M.kept⟩
      intro p hp
      simp at hp
      rcases hp with rfl | rfl | rfl | rfl
      · exact oaN_ok (by decide) HU1.out (by rw [HK1.out]; exact HLN1.out)
      · exact oaN_ok (by decide) HU2.out (by rw [HK2.out]; exact HLN2.out)
      · exact oaN_ok (by decide) HU3.out (by rw [HK3.out]; exact HLN3.out)
      · exact oaB_ok
end Go.Proofs.YgcsalGreat

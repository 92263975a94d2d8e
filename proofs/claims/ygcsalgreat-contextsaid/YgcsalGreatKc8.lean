/-
  The walks of yp.hashedAddr, yp.createAddr, law.madeBy.
-/
import Derived.Test.YgcsalGreatKc7
import Derived.Test.YgcsalGreatYp4
set_option linter.unusedSimpArgs false
set_option linter.unusedVariables false
namespace Go.Own
/-- The address that a hash gives. -/
def hadr (l : List Nat) : List Nat := (ksum l).drop 12
theorem hadr_len (l : List Nat) : (hadr l).length = 20 := by
  unfold hadr
  rw [List.length_drop, ksum_len]
theorem ext_drop {l : List Nat} (h : l.length = 32) : ((l.map n8).toArray).extract 12 (12 + 20) = ((l.drop 12).map n8).toArray := by
  refine Array.ext_getElem? fun i => ?_
  rw [Array.getElem?_extract]
  simp only [List.size_toArray, List.length_map, h]
  by_cases hi : i < 20
  · rw [if_pos (by omega)]
    simp
  · rw [if_neg (by omega), List.getElem?_toArray, List.getElem?_eq_none (by simp; omega)]
theorem n8_ones (l : List Nat) : ∀ u ∈ (l.map n8).toArray.toList, u.oneCell' = true := by
  intro u hu
  simp at hu
  obtain ⟨x, _, rfl⟩ := hu
  rfl
theorem own_above3 {w : World} {B e n b0 b1 b2 : Nat} {v : Value} {xs : List Value} {o0 o1 o2 : Obj} (h : w.ownsRow B e 1 v n xs) (hp : b0 < B ∧ b1 < B ∧ b2 < B) : ∀ p ∈ [(b0, o0), (b1, o1), (b2, o2)], v.ownBlock ≠ some p.1 := by
  intro p hq e
  have h2 := (own_block h e).1
  simp only [List.mem_cons, List.not_mem_nil, or_false] at hq
  rcases hq with rfl | rfl | rfl <;> simp only at h2 <;> omega
theorem join_cells {cur : Array Value} {l : List Nat} {xs : List Value} {n : Nat} (hx : xs = l.map n8) (hn : l.length = n) (hc : ∀ i, i < n → cur[i]? = xs[i]?) : ∀ k x, l[k]? = some x → cur[0 + k]? = some (n8 x) := by
  intro k x hk
  have h1 := (List.getElem?_eq_some_iff.1 hk).1
  rw [Nat.zero_add, hc k (by omega), hx, List.getElem?_map, hk]
  rfl
theorem num_zero_form {w : World} {v : Value} (h : NumV w v 0) : ∃ p c, v = .slice p 0 c ∧ 0 ≤ c ∧ c ≤ 1000000 := by
  obtain ⟨ds, ⟨p, c, rfl, h1, h2, _⟩, h3, h4⟩ := h
  have e : ds.length = 0 := by
    have := h3.short (k := 0) (by rw [h4]; decide)
    omega
  exact ⟨p, c, by rw [e], by omega, h2⟩
theorem num_one_form {w : World} {v : Value} (h : NumV w v 1) : ∃ g c t cs, v = .slice (some ⟨g, 0, none⟩) 1 c ∧ w.heap[g]? = some (.cells cs t (0, 0)) ∧ cs[0]? = some (n8 1) := by
  obtain ⟨ds, ⟨p, c, rfl, h1, h2, hd, hs⟩, h3, h4⟩ := h
  have e : ds.length ≤ 1 := h3.short (k := 1) (by rw [h4]; decide)
  match ds, e, h4 with
  | [], _, h4 => simp [val] at h4
  | [x], _, h4 =>
    have hx : x = 1 := by simpa [val] using h4
    obtain ⟨b, t, cs, e1, e2, e3⟩ := hd.at (i := 0) (by simp)
    refine ⟨b, c, t, (cs.map n8).toArray, by rw [e1]; rfl, e2, ?_⟩
    have := pre_get e3 (i := 0) (by simp)
    simp [this, hx]
end Go.Own
namespace Go.Proofs.YgcsalGreat
open Go.RowKit Go.Own

set_option maxHeartbeats 4000000 in
set_option maxRecDepth 100000 in
theorem hashed_any (b o t cp : Nat) (cs : Array Value) (l : List Nat) (w : World) (hr : w.heap[b]? = some (.cells cs t (0, 0))) (hc : ∀ k x, l[k]? = some x → cs[o + k]? = some (n8 x)) (hl : l.length = 23) (hs : Small l) :
    Calls Salg.prog 164 #[.slice (some ⟨b, o, none⟩) 23 cp] w fun e w' => e = .returned (A8 (hadr l)) ∧ Kept [] w w' := by
  have M := Mem.start w []
  have HS := hid (fun w' (K : Kept [] w w') => sum_any b o t cp cs l w' (K.row hr (by simp)) hc hl hs)
  have HL := hid (ksum_len l)
  have HL2 := hid (hadr_len l)
  have HX := hid (ext_drop (ksum_len l))
  clear hr hc hl hs
  go_enter Salg.func164, Salg.ntmps164
  go_wp2_with ((with_reducible apply L_allocA (d := 2) M); exact zero45; clear M; intro b2 w1 hb2 M; simp only [Act.put, List.setIfInBounds_toArray, List.set_cons_zero, List.set_cons_succ])
  refine (HS.out _ M.kept).mono ?_
  rintro e w2 ⟨rfl, K2⟩
  replace M := M.call K2
  clear K2
  go_wp2_with (first
    | ((with_reducible apply L_allocA (d := 3) M); exact zero22; clear M; intro b3 w3 hb3 M; simp only [Act.put, List.setIfInBounds_toArray, List.set_cons_zero, List.set_cons_succ])
    | ((with_reducible apply W_storeK (b := b3) (vs := ((ksum l).map n8).toArray)); rfl; rfl; exact M.r0; exact size22; (simp [HL.out]); exact n8_ones _; intro w4 K hr3; replace M := Mem.callPut (L1 := []) (o' := R8 22 (ksum l)) M (Or.inr hb3) K hr3; clear K hr3; simp only [List.nil_append] at M)
    | ((with_reducible apply W_sliceArr (l := 12) (h := 32) (m := 32)); rfl; exact Salg.underlying22; exact size5; (first | exact Or.inl ⟨rfl, rfl⟩ | exact Or.inr ⟨_, _, _, rfl, rfl, by omega⟩); (first | exact Or.inl ⟨rfl, rfl⟩ | exact Or.inr ⟨_, _, _, rfl, rfl, by omega⟩); (first | exact Or.inl ⟨rfl, rfl⟩ | exact Or.inr ⟨_, _, _, rfl, rfl, by omega⟩); (first | exact Or.inl rfl | exact Or.inr rfl); omega; omega; omega; omega; (try simp only [Nat.zero_add, Nat.reduceSub]); simp only [Act.put, List.setIfInBounds_toArray, List.set_cons_zero, List.set_cons_succ])
    | ((with_reducible apply W_arrayAt); rfl; exact Salg.underlying45; omega; simp only [Act.put, List.setIfInBounds_toArray, List.set_cons_zero, List.set_cons_succ])
    | ((with_reducible apply W_loadX (o := 12) (n := 20)); rfl; exact M.r0; exact Salg.underlying45; rfl; exact size45; (simp [HL.out]); exact HX.out; simp only [Act.put, List.setIfInBounds_toArray, List.set_cons_zero, List.set_cons_succ])
    | ((with_reducible apply W_storeK (b := b2) (vs := ((hadr l).map n8).toArray)); rfl; rfl; exact M.r1; exact size45; (simp [HL2.out]); exact n8_ones _; intro w4 K hr3; replace M := Mem.callPut (L1 := [_]) (o' := R8 45 (hadr l)) M (Or.inr hb2) K hr3; clear K hr3; simp only [List.cons_append, List.nil_append] at M))
  exact ret_cell1 Salg.results164 rfl M.r1 Salg.underlying45 rfl (by rw [size45]; simp [HL2.out]) rfl ⟨rfl, M.kept⟩

set_option maxHeartbeats 4000000 in
set_option maxRecDepth 100000 in
theorem createAddr_0 (v : Value) (cr : List Nat) (w : World) (hv : NumV w v 0) (hl : cr.length = 20) (hs : Small cr) :
    Calls Salg.prog 86 #[A8 cr, v] w fun e w' => e = .returned (A8 (hadr (214 :: 148 :: (cr ++ [128])))) ∧ Kept [] w w' := by
  have M := Mem.start w []
  have HNO := hid (fun w' (K : Kept [] w w') => norm_num v 0 w' (hv.kept K))
  have HL := hid hl
  have HHA := hid (fun b t cp cs w' hr hc => hashed_any b 0 t cp cs (214 :: 148 :: (cr ++ [128])) w' hr hc (by simp [hl]) (by intro x hx; simp at hx; rcases hx with rfl | rfl | hx | rfl <;> first | omega | exact hs x hx))
  have HL2 := hid (hadr_len (214 :: 148 :: (cr ++ [128])))
  clear hv hl hs
  generalize hadr (214 :: 148 :: (cr ++ [128])) = ha at *
  go_enter Salg.func86, Salg.ntmps86
  go_wp2_with (first
    | ((with_reducible apply L_box (d := 2) M); rfl; clear M; intro b2 w1 hb2 M; simp only [Act.put, List.setIfInBounds_toArray, List.set_cons_zero, List.set_cons_succ])
    | ((with_reducible apply L_allocA (d := 4) M); exact zero45; clear M; intro b4 w2 hb4 M; simp only [Act.put, List.setIfInBounds_toArray, List.set_cons_zero, List.set_cons_succ])
    | ((with_reducible apply W_buildN (d := 9) (vs := #[n8 128]) (e := 5) M); kernel_rfl; clear M; intro b9 w3 hb9 hq9 KB M; clear KB hq9; simp only [Act.put, List.setIfInBounds_toArray, List.set_cons_zero, List.set_cons_succ]))
  refine (HNO.out _ M.kept).mono ?_
  rintro e w4 ⟨u, rfl, hu, K4⟩
  replace M := M.call K4
  clear K4
  obtain ⟨p, c, rfl, hc1, hc2⟩ := num_zero_form hu
  clear hu
  go_wp2_with (first
    | ((with_reducible apply W_buildN (d := 54) (vs := #[n8 214, n8 148]) (e := 5) M); kernel_rfl; (have q9 := lt_of_row M.r0; have q4 := lt_of_row M.r1; have q2 := lt_of_row M.r2); clear M; intro b54 w5 hb54 hq54 KB M; have HAP : Hid (b9 < b54 ∧ b4 < b54 ∧ b2 < b54) := ⟨Nat.lt_of_lt_of_le q9 hq54, Nat.lt_of_lt_of_le q4 hq54, Nat.lt_of_lt_of_le q2 hq54⟩; clear KB hq54 q9 q4 q2; simp only [Act.put, List.setIfInBounds_toArray, List.set_cons_zero, List.set_cons_succ])
    | ((with_reducible apply W_sliceArr (l := 0) (h := 20) (m := 20)); rfl; exact Salg.underlying45; exact size5; (first | exact Or.inl ⟨rfl, rfl⟩ | exact Or.inr ⟨_, _, _, rfl, rfl, by omega⟩); (first | exact Or.inl ⟨rfl, rfl⟩ | exact Or.inr ⟨_, _, _, rfl, rfl, by omega⟩); (first | exact Or.inl ⟨rfl, rfl⟩ | exact Or.inr ⟨_, _, _, rfl, rfl, by omega⟩); (first | exact Or.inl rfl | exact Or.inr rfl); omega; omega; omega; omega; (try simp only [Nat.zero_add, Nat.sub_zero]); simp only [Act.put, List.setIfInBounds_toArray, List.set_cons_zero, List.set_cons_succ])
    | ((with_reducible apply W_appendIt (d := 57) (base := b54) (n := 2) (m := 20) (s := 1) (bn := b2) (so := 0) (xs := [n8 214, n8 148]) (news := cr.map n8) (cs := (cr.map n8).toArray) M.tail); exact info5; exact Salg.underlying40; rfl; decide; decide; rfl; rfl; exact own_lit M.r0 rfl (by decide) (Nat.le_refl _); decide; exact M.r3; (simp [HL.out]); exact cells_news _; exact n8_one _; exact hb54; exact Nat.le_of_lt (lt_of_row M.r0); exact own_above3 (own_lit M.r0 rfl (by decide) (Nat.le_refl _)) HAP.out; clear M; intro VV w7 M xO hb3 KA; have HO := hid xO; have hBw := hb3; clear xO KA hb3; simp only [Act.put, List.setIfInBounds_toArray, List.set_cons_zero, List.set_cons_succ])
    | ((with_reducible apply W_appendIt (d := 60) (base := b54) (n := 22) (m := 1) (s := 1) (bn := b9) (so := 0) (xs := [n8 214, n8 148] ++ cr.map n8) (news := [n8 128]) (cs := #[n8 128]) M); exact info5; exact Salg.underlying40; rfl; decide; decide; rfl; rfl; exact HO.out; decide; exact M.r0; rfl; exact one_news _; exact one_one rfl; exact hb54; exact hBw; exact own_above3 HO.out HAP.out; clear M; intro VV2 w8 M xO hb3 KA; replace HO := hid xO; replace hBw := hb3; clear xO KA hb3; simp only [Act.put, List.setIfInBounds_toArray, List.set_cons_zero, List.set_cons_succ]))
  obtain ⟨g, cap, cur, rfl, hg, hcap, hcell⟩ := own_row HO.out (by decide)
  have HCL := hid (join_cells (l := 214 :: 148 :: (cr ++ [128])) (n := 23) (by simp) (by simp [HL.out]) hcell.2)
  have HG := hid hg
  clear hcell hg HO
  refine (HHA.out g 5 cap cur _ HG.out HCL.out).mono ?_
  rintro e w9 ⟨rfl, K9⟩
  replace M := M.call K9
  clear K9
  go_wp2_with ((with_reducible apply W_storeK (b := b4) (vs := (ha.map n8).toArray)); rfl; rfl; exact M.r1; exact size45; (simp [HL2.out]); exact n8_ones _; intro w4 K hr3; replace M := Mem.callPut (L1 := [_]) (o' := R8 45 ha) M (Or.inr hb4) K hr3; clear K hr3; simp only [List.cons_append, List.nil_append] at M)
  exact ret_cell1 Salg.results86 rfl M.r1 Salg.underlying45 rfl (by rw [size45]; simp [HL2.out]) rfl ⟨rfl, M.kept⟩

set_option maxHeartbeats 4000000 in
set_option maxRecDepth 100000 in
theorem createAddr_1 (v : Value) (cr : List Nat) (w : World) (hv : NumV w v 1) (hl : cr.length = 20) (hs : Small cr) :
    Calls Salg.prog 86 #[A8 cr, v] w fun e w' => e = .returned (A8 (hadr (214 :: 148 :: (cr ++ [1])))) ∧ Kept [] w w' := by
  have M := Mem.start w []
  have HNO := hid (fun w' (K : Kept [] w w') => norm_num v 1 w' (hv.kept K))
  have HL := hid hl
  have HHA := hid (fun b t cp cs w' hr hc => hashed_any b 0 t cp cs (214 :: 148 :: (cr ++ [1])) w' hr hc (by simp [hl]) (by intro x hx; simp at hx; rcases hx with rfl | rfl | hx | rfl <;> first | omega | exact hs x hx))
  have HL2 := hid (hadr_len (214 :: 148 :: (cr ++ [1])))
  clear hv hl hs
  generalize hadr (214 :: 148 :: (cr ++ [1])) = ha at *
  go_enter Salg.func86, Salg.ntmps86
  go_wp2_with (first
    | ((with_reducible apply L_box (d := 2) M); rfl; clear M; intro b2 w1 hb2 M; simp only [Act.put, List.setIfInBounds_toArray, List.set_cons_zero, List.set_cons_succ])
    | ((with_reducible apply L_allocA (d := 4) M); exact zero45; clear M; intro b4 w2 hb4 M; simp only [Act.put, List.setIfInBounds_toArray, List.set_cons_zero, List.set_cons_succ])
    | ((with_reducible apply W_buildN (d := 9) (vs := #[n8 128]) (e := 5) M); kernel_rfl; clear M; intro b9 w3 hb9 hq9 KB M; clear KB hq9; simp only [Act.put, List.setIfInBounds_toArray, List.set_cons_zero, List.set_cons_succ]))
  refine (HNO.out _ M.kept).mono ?_
  rintro e w4 ⟨u, rfl, hu, K4⟩
  replace M := M.call K4
  clear K4
  obtain ⟨gg, c, tt, cc, rfl, hgr, hgc⟩ := num_one_form hu
  have HGR := hid hgr
  have HGC := hid hgc
  clear hu hgr hgc
  go_wp2_with (first
    | ((with_reducible apply W_loadCellG (dst := 18)); rfl; rfl; exact HGR.out; exact HGC.out; exact Salg.underlying5; rfl; simp only [Act.put, List.setIfInBounds_toArray, List.set_cons_zero, List.set_cons_succ])
    | ((with_reducible apply W_loadCell (dst := 24)); rfl; exact HGR.out; exact HGC.out; exact Salg.underlying5; rfl; simp only [Act.put, List.setIfInBounds_toArray, List.set_cons_zero, List.set_cons_succ])
    | ((with_reducible apply W_stV (b := b9) (o := 0) (v := n8 1)); rfl; rfl; rfl; exact M.r0; exact size5; decide; intro w6 K hr3; replace M := Mem.callPut (L1 := []) (o' := .cells #[n8 1] 5 (0, 0)) M (Or.inr hb9) K hr3; clear K hr3; simp only [List.nil_append] at M)
    | ((with_reducible apply W_buildN (d := 54) (vs := #[n8 214, n8 148]) (e := 5) M); kernel_rfl; (have q9 := lt_of_row M.r0; have q4 := lt_of_row M.r1; have q2 := lt_of_row M.r2); clear M; intro b54 w5 hb54 hq54 KB M; have HAP : Hid (b9 < b54 ∧ b4 < b54 ∧ b2 < b54) := ⟨Nat.lt_of_lt_of_le q9 hq54, Nat.lt_of_lt_of_le q4 hq54, Nat.lt_of_lt_of_le q2 hq54⟩; clear KB hq54 q9 q4 q2; simp only [Act.put, List.setIfInBounds_toArray, List.set_cons_zero, List.set_cons_succ])
    | ((with_reducible apply W_sliceArr (l := 0) (h := 20) (m := 20)); rfl; exact Salg.underlying45; exact size5; (first | exact Or.inl ⟨rfl, rfl⟩ | exact Or.inr ⟨_, _, _, rfl, rfl, by omega⟩); (first | exact Or.inl ⟨rfl, rfl⟩ | exact Or.inr ⟨_, _, _, rfl, rfl, by omega⟩); (first | exact Or.inl ⟨rfl, rfl⟩ | exact Or.inr ⟨_, _, _, rfl, rfl, by omega⟩); (first | exact Or.inl rfl | exact Or.inr rfl); omega; omega; omega; omega; (try simp only [Nat.zero_add, Nat.sub_zero]); simp only [Act.put, List.setIfInBounds_toArray, List.set_cons_zero, List.set_cons_succ])
    | ((with_reducible apply W_appendIt (d := 57) (base := b54) (n := 2) (m := 20) (s := 1) (bn := b2) (so := 0) (xs := [n8 214, n8 148]) (news := cr.map n8) (cs := (cr.map n8).toArray) M.tail); exact info5; exact Salg.underlying40; rfl; decide; decide; rfl; rfl; exact own_lit M.r0 rfl (by decide) (Nat.le_refl _); decide; exact M.r3; (simp [HL.out]); exact cells_news _; exact n8_one _; exact hb54; exact Nat.le_of_lt (lt_of_row M.r0); exact own_above3 (own_lit M.r0 rfl (by decide) (Nat.le_refl _)) HAP.out; clear M; intro VV w7 M xO hb3 KA; have HO := hid xO; have hBw := hb3; clear xO KA hb3; simp only [Act.put, List.setIfInBounds_toArray, List.set_cons_zero, List.set_cons_succ])
    | ((with_reducible apply W_appendIt (d := 60) (base := b54) (n := 22) (m := 1) (s := 1) (bn := b9) (so := 0) (xs := [n8 214, n8 148] ++ cr.map n8) (news := [n8 1]) (cs := #[n8 1]) M); exact info5; exact Salg.underlying40; rfl; decide; decide; rfl; rfl; exact HO.out; decide; exact M.r0; rfl; exact one_news _; exact one_one rfl; exact hb54; exact hBw; exact own_above3 HO.out HAP.out; clear M; intro VV2 w8 M xO hb3 KA; replace HO := hid xO; replace hBw := hb3; clear xO KA hb3; simp only [Act.put, List.setIfInBounds_toArray, List.set_cons_zero, List.set_cons_succ]))
  obtain ⟨g, cap, cur, rfl, hg, hcap, hcell⟩ := own_row HO.out (by decide)
  have HCL := hid (join_cells (l := 214 :: 148 :: (cr ++ [1])) (n := 23) (by simp) (by simp [HL.out]) hcell.2)
  have HG := hid hg
  clear hcell hg HO
  refine (HHA.out g 5 cap cur _ HG.out HCL.out).mono ?_
  rintro e w9 ⟨rfl, K9⟩
  replace M := M.call K9
  clear K9
  go_wp2_with ((with_reducible apply W_storeK (b := b4) (vs := (ha.map n8).toArray)); rfl; rfl; exact M.r1; exact size45; (simp [HL2.out]); exact n8_ones _; intro w4 K hr3; replace M := Mem.callPut (L1 := [_]) (o' := R8 45 ha) M (Or.inr hb4) K hr3; clear K hr3; simp only [List.cons_append, List.nil_append] at M)
  exact ret_cell1 Salg.results86 rfl M.r1 Salg.underlying45 rfl (by rw [size45]; simp [HL2.out]) rfl ⟨rfl, M.kept⟩
end Go.Proofs.YgcsalGreat

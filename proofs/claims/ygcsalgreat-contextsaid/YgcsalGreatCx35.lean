/-
  The walk of law.lookup on what Export lays.
-/
import Derived.Test.YgcsalGreatCx34
import Derived.Test.YgcsalGreatSl19
set_option linter.unusedSimpArgs false
set_option linter.unusedVariables false
namespace Go.Own
theorem oaG_x {a : List Nat} {N : Nat} {bal : List Nat} {code st : Value} (ha : a.length = 20) : (oaG a N bal code st).toArray.extract 0 (0 + 20) = (a.map n8).toArray := by
  apply Array.ext'
  simp [oaG, ha]
theorem outD_at : ∀ (D : List AD) (os : List Value) (i : Nat) (d : AD) (o : Value), (∀ d ∈ D, d.adr.length = 20) → D[i]? = some d → os[i]? = some o → ((outD D os).drop (i * 55)).take 55 = oaG d.adr d.N (nbw 32 d.B) o nilS
  | [], os, i, d, o, hD, h1, h2 => by simp at h1
  | x :: D, [], i, d, o, hD, h1, h2 => by simp at h2
  | x :: D, y :: os, 0, d, o, hD, h1, h2 => by
    have e1 : x = d := by simpa using h1
    have e2 : y = o := by simpa using h2
    subst e1 e2
    have hl := oaG_len (N := x.N) (code := y) (st := nilS) (hD x (by simp)) (nbw_len x.B 32)
    rw [outD, Nat.zero_mul, List.drop_zero, List.take_append_of_le_length (by omega), List.take_of_length_le (by omega)]
  | x :: D, y :: os, i + 1, d, o, hD, h1, h2 => by
    have hl := oaG_len (N := x.N) (code := y) (st := nilS) (hD x (by simp)) (nbw_len x.B 32)
    rw [outD, show (i + 1) * 55 = 55 + i * 55 by omega, ← List.drop_drop, List.drop_left' hl]
    exact outD_at D os i d o (fun d hd => hD d (by simp [hd])) (by simpa using h1) (by simpa using h2)
/-- Where Export's row lies. -/
theorem own_outD {w : World} {base : Nat} {v : Value} {D : List AD} {os : List Value} (h : w.ownsRow base 123 55 v D.length (outD D os)) (h0 : D ≠ []) (hD : ∀ d ∈ D, d.adr.length = 20) : ∃ g cap cur, v = .slice (some ⟨g, 0, none⟩) D.length cap ∧ w.heap[g]? = some (.cells cur 123 (0, 0)) ∧ ∀ (i : Nat) (d : AD) (o : Value), D[i]? = some d → os[i]? = some o → i * 55 + 55 ≤ cur.size ∧ cur.extract (i * 55) (i * 55 + 55) = (oaG d.adr d.N (nbw 32 d.B) o nilS).toArray := by
  obtain ⟨h1, ⟨_, h2⟩ | ⟨g, cap, cur, h2, h3, h4, h5, h6, h7, h8⟩⟩ := h
  · exact absurd (List.length_eq_zero_iff.1 h2) h0
  · refine ⟨g, cap, cur, h2, h4, fun i d o e1 e2 => ?_⟩
    have hi := (List.getElem?_eq_some_iff.1 e1).1
    have hb : i * 55 + 55 ≤ cur.size := by
      rw [h7]
      have : (i + 1) * 55 ≤ cap * 55 := Nat.mul_le_mul_right _ (by omega)
      omega
    refine ⟨hb, ?_⟩
    have hat := outD_at D os i d o hD e1 e2
    rw [← h8] at hat
    rw [← hat]
    have hm : (i + 1) * 55 ≤ D.length * 55 := Nat.mul_le_mul_right _ (by omega)
    refine Array.ext_getElem? fun k => ?_
    have er : (((cur.toList.take (D.length * 55)).drop (i * 55)).take 55).toArray[k]? = (((cur.toList.take (D.length * 55)).drop (i * 55)).take 55)[k]? := List.getElem?_toArray
    rw [Array.getElem?_extract, er, Nat.min_eq_left hb]
    by_cases hk : k < 55
    · rw [if_pos (by omega), List.getElem?_take_of_lt hk, List.getElem?_drop, List.getElem?_take_of_lt (by omega), Array.getElem?_toList]
    · rw [if_neg (by omega), List.getElem?_eq_none (by simp; omega)]
end Go.Own
namespace Go.Proofs.YgcsalGreat
open Go.RowKit Go.Own

set_option maxHeartbeats 4000000 in
set_option maxRecDepth 100000 in
theorem lookup_D (g cap j : Nat) (cur : Array Value) (D : List AD) (os : List Value) (d : AD) (o : Value) (a : List Nat) (w : World) (hg : w.heap[g]? = some (.cells cur 123 (0, 0))) (hc : ∀ (i : Nat) (d : AD) (o : Value), D[i]? = some d → os[i]? = some o → i * 55 + 55 ≤ cur.size ∧ cur.extract (i * 55) (i * 55 + 55) = (oaG d.adr d.N (nbw 32 d.B) o nilS).toArray) (hlen : os.length = D.length) (hn20 : D.length ≤ 20) (hone : ∀ y ∈ os, y.oneCell' = true) (hD : ∀ d ∈ D, d.adr.length = 20) (hj : D[j]? = some d) (hjo : os[j]? = some o) (hda : d.adr = a) (hne : ∀ i x, i < j → D[i]? = some x → x.adr ≠ a) :
    Calls Salg.prog 126 #[.slice (some ⟨g, 0, none⟩) D.length cap, A8 a] w fun e w' => e = .returned (.agg (oaG a d.N (nbw 32 d.B) o nilS).toArray) ∧ Kept [] w w' := by
  have M := Mem.start w []
  have hjl : j < D.length := (List.getElem?_eq_some_iff.1 hj).1
  have HAT : Hid (∀ i, i ≤ j → ∃ x y, D[i]? = some x ∧ os[i]? = some y) := by
    intro i hi
    exact ⟨D[i], os[i]'(by omega), List.getElem?_eq_getElem (by omega), List.getElem?_eq_getElem (by omega)⟩
  have HC := hid hc
  have HON := hid hone
  have HDD := hid hD
  have HJ := hid hj
  have HJO := hid hjo
  have HDA := hid hda
  have HNE := hid hne
  have HA20 : Hid (a.length = 20) := by
    show _ = _
    rw [← hda]
    exact hD d (List.mem_of_getElem? hj)
  clear hc hone hD hj hjo hda hne hlen
  generalize D.length = n at *
  go_enter Salg.func126, Salg.ntmps126
  go_wp2_with (first
    | ((with_reducible apply L_box (d := 3) M); rfl; clear M; intro t3 w1 ht3 M; simp only [Act.put, List.setIfInBounds_toArray, List.set_cons_zero, List.set_cons_succ])
    | ((with_reducible apply L_allocA (d := 4) M); exact zero123; clear M; intro t4 w2 ht4 M; simp only [Act.put, List.setIfInBounds_toArray, List.set_cons_zero, List.set_cons_succ]))
  go_loopw [9] (fun iv wr => ∃ i : Nat, i ≤ j ∧ iv = .int .i64 (i : Int) ∧ Mem w [] [(t4, .cells (z8 20 ++ [n64 0] ++ z8 32 ++ [nilS, nilS]).toArray 123 (0, 0)), (t3, .cells (a.map n8).toArray 45 (0, 0))] wr) (fun iv _ => ((n : Int) - intOf iv).toNat)
  case atStart => exact ⟨0, by omega, rfl, M⟩
  case round =>
    clear M
    obtain ⟨i, hi, rfl, M⟩ := hrel
    obtain ⟨x, y, hx, hy⟩ := HAT.out i hi
    obtain ⟨q1, q2⟩ := HC.out i x y hx hy
    have HSZ := hid q1
    have HEX := hid q2
    have HXA : Hid (x.adr.length = 20) := HDD.out x (List.mem_of_getElem? hx)
    have hy1 : y.oneCell' = true := HON.out y (List.mem_of_getElem? hy)
    have HL1 := hid (oaG_len (N := x.N) (code := y) (st := nilS) HXA.out (nbw_len x.B 32))
    have HO1 : Hid (∀ u ∈ (oaG x.adr x.N (nbw 32 x.B) y nilS).toArray.toList, u.oneCell' = true) := oaG_one hy1 rfl
    clear q1 q2 hy1
    have hin : i < n := by omega
    rcases Nat.lt_or_ge i j with hlt | hge
    · have HEQ : Hid (decide (x.adr = a) = false) := by
        show _ = _
        simpa using HNE.out i x hlt hx
      clear hx hy
      go_wp2_with (first
        | ((with_reducible apply W_loadX (b := g) (o := i * 55) (n := 55) (cs := cur) (vs := (oaG x.adr x.N (nbw 32 x.B) y nilS).toArray)); (first | rfl | (simp [Act.eval]; done)); exact M.kept.row hg (by simp); exact Salg.underlying123; rfl; exact size123; exact HSZ.out; exact HEX.out; simp only [Act.put, List.setIfInBounds_toArray, List.set_cons_zero, List.set_cons_succ])
        | ((with_reducible apply L_allocA (d := 6) M); exact zero123; clear M; intro t6 w3 ht6 M; simp only [Act.put, List.setIfInBounds_toArray, List.set_cons_zero, List.set_cons_succ])
        | ((with_reducible apply W_storeK (b := t6) (vs := (oaG x.adr x.N (nbw 32 x.B) y nilS).toArray)); rfl; rfl; exact M.r0; exact size123; (simp [HL1.out, z8]); exact HO1.out; intro w4 K hr3; replace M := Mem.callPut (L1 := []) M (Or.inr ht6) K hr3; clear K hr3; simp only [List.nil_append] at M)
        | ((with_reducible apply W_loadX (b := t6) (o := 0) (n := 20) (vs := (x.adr.map n8).toArray)); rfl; exact M.r0; exact Salg.underlying45; rfl; exact size45; (simp [HL1.out]); exact oaG_x HXA.out; simp only [Act.put, List.setIfInBounds_toArray, List.set_cons_zero, List.set_cons_succ])
        | ((with_reducible apply W_loadAll); rfl; exact M.r2; exact Salg.underlying45; rfl; (rw [size45]; simp [HA20.out]); simp only [Act.put, List.setIfInBounds_toArray, List.set_cons_zero, List.set_cons_succ])
        | ((with_reducible apply W_eql8 (l := x.adr) (l' := a)); rfl; rfl; exact Salg.underlying45; exact Salg.underlying5; exact size5; exact guard45; exact HXA.out; exact HA20.out; (rw [HEQ.out]); simp only [Act.put, List.setIfInBounds_toArray, List.set_cons_zero, List.set_cons_succ]))
      go_roundw
      case rel => exact ⟨i + 1, by omega, by go_num, M.tail⟩
      case measure => simp [intOf]; omega
    · have e : i = j := by omega
      have e1 : x = d := by
        rw [e, HJ.out] at hx
        exact (Option.some.inj hx).symm
      have e2 : y = o := by
        rw [e, HJO.out] at hy
        exact (Option.some.inj hy).symm
      have HEQ : Hid (decide (x.adr = a) = true) := by
        show _ = _
        rw [e1, HDA.out]
        simp
      have HFIN : Hid ((oaG x.adr x.N (nbw 32 x.B) y nilS).toArray = (oaG a d.N (nbw 32 d.B) o nilS).toArray) := by
        show _ = _
        rw [e1, e2, HDA.out]
      clear hx hy e e1 e2
      go_wp2_with (first
        | ((with_reducible apply W_loadX (b := g) (o := i * 55) (n := 55) (cs := cur) (vs := (oaG x.adr x.N (nbw 32 x.B) y nilS).toArray)); (first | rfl | (simp [Act.eval]; done)); exact M.kept.row hg (by simp); exact Salg.underlying123; rfl; exact size123; exact HSZ.out; exact HEX.out; simp only [Act.put, List.setIfInBounds_toArray, List.set_cons_zero, List.set_cons_succ])
        | ((with_reducible apply L_allocA (d := 6) M); exact zero123; clear M; intro t6 w3 ht6 M; simp only [Act.put, List.setIfInBounds_toArray, List.set_cons_zero, List.set_cons_succ])
        | ((with_reducible apply W_storeK (b := t6) (vs := (oaG x.adr x.N (nbw 32 x.B) y nilS).toArray)); rfl; rfl; exact M.r0; exact size123; (simp [HL1.out, z8]); exact HO1.out; intro w4 K hr3; replace M := Mem.callPut (L1 := []) M (Or.inr ht6) K hr3; clear K hr3; simp only [List.nil_append] at M)
        | ((with_reducible apply W_loadX (b := t6) (o := 0) (n := 20) (vs := (x.adr.map n8).toArray)); rfl; exact M.r0; exact Salg.underlying45; rfl; exact size45; (simp [HL1.out]); exact oaG_x HXA.out; simp only [Act.put, List.setIfInBounds_toArray, List.set_cons_zero, List.set_cons_succ])
        | ((with_reducible apply W_loadAll); rfl; exact M.r2; exact Salg.underlying45; rfl; (rw [size45]; simp [HA20.out]); simp only [Act.put, List.setIfInBounds_toArray, List.set_cons_zero, List.set_cons_succ])
        | ((with_reducible apply W_eql8 (l := x.adr) (l' := a)); rfl; rfl; exact Salg.underlying45; exact Salg.underlying5; exact size5; exact guard45; exact HXA.out; exact HA20.out; (rw [HEQ.out]); simp only [Act.put, List.setIfInBounds_toArray, List.set_cons_zero, List.set_cons_succ])
        | ((with_reducible apply W_loadAll); rfl; exact M.r0; exact Salg.underlying123; rfl; (rw [size123]; simp [HL1.out]); simp only [Act.put, List.setIfInBounds_toArray, List.set_cons_zero, List.set_cons_succ])
        | ((with_reducible apply W_storeK (b := t4) (vs := (oaG x.adr x.N (nbw 32 x.B) y nilS).toArray)); rfl; rfl; exact M.r1; exact size123; (simp [HL1.out, z8]); exact HO1.out; intro w5 K hr3; replace M := Mem.callPut (L1 := [(t6, _)]) M (Or.inr ht4) K hr3; clear K hr3; simp only [List.cons_append, List.nil_append] at M))
      refine ret_cell1 Salg.results126 rfl M.r1 Salg.underlying123 rfl (by rw [size123]; simp [HL1.out]) rfl ⟨by rw [HFIN.out], M.kept⟩
end Go.Proofs.YgcsalGreat

/-
  The walk of law.lookup: the first two of a world's accounts.
-/
import Derived.Test.YgcsalGreatSl4
set_option linter.unusedSimpArgs false
set_option linter.unusedVariables false
namespace Go.Own
def oaS (n N : Nat) (bal : List Nat) (code st : Value) : List Value := (ad n).map n8 ++ ([n64 N] ++ (bal.map n8 ++ [code, st]))
theorem oaS_len {n N : Nat} {bal : List Nat} {code st : Value} (h : bal.length = 32) : (oaS n N bal code st).length = 55 := by simp [oaS, ad, h]
theorem oaS_x (n N : Nat) (bal : List Nat) (code st : Value) : (oaS n N bal code st).toArray.extract 0 (0 + 20) = ((ad n).map n8).toArray := by
  apply Array.ext'
  simp [oaS, ad, List.extract_eq_take_drop]
theorem oaS_one {n N : Nat} {bal : List Nat} {code st : Value} (h1 : code.oneCell' = true) (h2 : st.oneCell' = true) : ∀ u ∈ (oaS n N bal code st).toArray.toList, u.oneCell' = true := by
  intro u hu
  simp only [oaS, List.mem_append, List.mem_map, List.mem_cons, List.not_mem_nil, or_false] at hu
  rcases hu with ⟨x, _, rfl⟩ | rfl | ⟨x, _, rfl⟩ | rfl | rfl
  · rfl
  · rfl
  · rfl
  · exact h1
  · exact h2
end Go.Own
namespace Go.Proofs.YgcsalGreat
open Go.RowKit Go.Own

set_option maxHeartbeats 4000000 in
set_option maxRecDepth 100000 in
theorem lookup_1 (g cap : Nat) (cur : Array Value) (N1 : Nat) (bal1 : List Nat) (c1 s1 : Value) (w : World) (hg : w.heap[g]? = some (.cells cur 123 (0, 0))) (hsz : 165 ≤ cur.size) (e1 : cur.extract 0 (0 + 55) = (oaS 1 N1 bal1 c1 s1).toArray) (l1 : bal1.length = 32) (x1 : c1.oneCell' = true) (y1 : s1.oneCell' = true) : Calls Salg.prog 126 #[.slice (some ⟨g, 0, none⟩) 3 cap, A8 (ad 1)] w fun e w' => e = .returned (.agg (oaS 1 N1 bal1 c1 s1).toArray) ∧ Kept [] w w' := by
  have M := Mem.start w []
  have HE1 := hid e1
  have HL1 := hid (oaS_len (n := 1) (N := N1) (code := c1) (st := s1) l1)
  have HO1 := hid (oaS_one (n := 1) (N := N1) (bal := bal1) x1 y1)
  clear e1 l1 x1 y1
  go_enter Salg.func126, Salg.ntmps126
  go_wp2_with (first
    | ((with_reducible apply L_box (d := 3) M); rfl; clear M; intro t3 w1 ht3 M; simp only [Act.put, List.setIfInBounds_toArray, List.set_cons_zero, List.set_cons_succ])
    | ((with_reducible apply L_allocA (d := 4) M); exact zero123; clear M; intro t4 w2 ht4 M; simp only [Act.put, List.setIfInBounds_toArray, List.set_cons_zero, List.set_cons_succ]))
  go_loopw [9] (fun iv wr => (iv = .int .i64 0 ∧ Mem w [] [(t4, .cells (z8 20 ++ [n64 0] ++ z8 32 ++ [nilS, nilS]).toArray 123 (0, 0)), (t3, .cells ((ad 1).map n8).toArray 45 (0, 0))] wr) ∨ (iv = .int .i64 1 ∧ False)) (fun iv _ => (2 - intOf iv).toNat)
  case atStart => exact .inl ⟨rfl, M⟩
  case round =>
    clear M
    rcases hrel with ⟨rfl, M⟩ | ⟨rfl, M⟩
    · skip
      go_wp2_with (first
        | ((with_reducible apply W_loadX (b := g) (o := 0) (n := 55) (cs := cur) (vs := (oaS 1 N1 bal1 c1 s1).toArray)); rfl; exact M.kept.row hg (by simp); exact Salg.underlying123; rfl; exact size123; omega; exact HE1.out; simp only [Act.put, List.setIfInBounds_toArray, List.set_cons_zero, List.set_cons_succ])
        | ((with_reducible apply L_allocA (d := 6) M); exact zero123; clear M; intro t6 w3 ht6 M; simp only [Act.put, List.setIfInBounds_toArray, List.set_cons_zero, List.set_cons_succ])
        | ((with_reducible apply W_storeK (b := t6) (vs := (oaS 1 N1 bal1 c1 s1).toArray)); rfl; rfl; exact M.r0; exact size123; (simp [HL1.out, z8]); exact HO1.out; intro w4 K hr3; replace M := Mem.callPut (L1 := []) M (Or.inr ht6) K hr3; clear K hr3; simp only [List.nil_append] at M)
        | ((with_reducible apply W_loadX (b := t6) (o := 0) (n := 20) (vs := ((ad 1).map n8).toArray)); rfl; exact M.r0; exact Salg.underlying45; rfl; exact size45; (simp [HL1.out]); exact oaS_x _ _ _ _ _; simp only [Act.put, List.setIfInBounds_toArray, List.set_cons_zero, List.set_cons_succ])
        | ((with_reducible apply W_loadAll); rfl; exact M.r2; exact Salg.underlying45; rfl; exact size45; simp only [Act.put, List.setIfInBounds_toArray, List.set_cons_zero, List.set_cons_succ])
        | ((with_reducible apply W_eql8 (l := ad 1) (l' := ad 1)); rfl; rfl; exact Salg.underlying45; exact Salg.underlying5; exact size5; exact guard45; rfl; rfl; (rw [show decide (ad 1 = ad 1) = true from by decide]); simp only [Act.put, List.setIfInBounds_toArray, List.set_cons_zero, List.set_cons_succ])
        | ((with_reducible apply W_loadAll); rfl; exact M.r0; exact Salg.underlying123; rfl; (rw [size123]; simp [HL1.out]); simp only [Act.put, List.setIfInBounds_toArray, List.set_cons_zero, List.set_cons_succ])
        | ((with_reducible apply W_storeK (b := t4) (vs := (oaS 1 N1 bal1 c1 s1).toArray)); rfl; rfl; exact M.r1; exact size123; (simp [HL1.out, z8]); exact HO1.out; intro w5 K hr3; replace M := Mem.callPut (L1 := [(t6, _)]) M (Or.inr ht4) K hr3; clear K hr3; simp only [List.cons_append, List.nil_append] at M))
      exact ret_cell1 Salg.results126 rfl M.r1 Salg.underlying123 rfl (by rw [size123]; simp [HL1.out]) rfl ⟨rfl, M.kept⟩
    · skip
      exact M.elim

set_option maxHeartbeats 4000000 in
set_option maxRecDepth 100000 in
theorem lookup_2 (g cap : Nat) (cur : Array Value) (N1 : Nat) (bal1 : List Nat) (c1 s1 : Value) (N2 : Nat) (bal2 : List Nat) (c2 s2 : Value) (w : World) (hg : w.heap[g]? = some (.cells cur 123 (0, 0))) (hsz : 165 ≤ cur.size) (e1 : cur.extract 0 (0 + 55) = (oaS 1 N1 bal1 c1 s1).toArray) (l1 : bal1.length = 32) (x1 : c1.oneCell' = true) (y1 : s1.oneCell' = true) (e2 : cur.extract 55 (55 + 55) = (oaS 2 N2 bal2 c2 s2).toArray) (l2 : bal2.length = 32) (x2 : c2.oneCell' = true) (y2 : s2.oneCell' = true) : Calls Salg.prog 126 #[.slice (some ⟨g, 0, none⟩) 3 cap, A8 (ad 2)] w fun e w' => e = .returned (.agg (oaS 2 N2 bal2 c2 s2).toArray) ∧ Kept [] w w' := by
  have M := Mem.start w []
  have HE1 := hid e1
  have HL1 := hid (oaS_len (n := 1) (N := N1) (code := c1) (st := s1) l1)
  have HO1 := hid (oaS_one (n := 1) (N := N1) (bal := bal1) x1 y1)
  clear e1 l1 x1 y1
  have HE2 := hid e2
  have HL2 := hid (oaS_len (n := 2) (N := N2) (code := c2) (st := s2) l2)
  have HO2 := hid (oaS_one (n := 2) (N := N2) (bal := bal2) x2 y2)
  clear e2 l2 x2 y2
  go_enter Salg.func126, Salg.ntmps126
  go_wp2_with (first
    | ((with_reducible apply L_box (d := 3) M); rfl; clear M; intro t3 w1 ht3 M; simp only [Act.put, List.setIfInBounds_toArray, List.set_cons_zero, List.set_cons_succ])
    | ((with_reducible apply L_allocA (d := 4) M); exact zero123; clear M; intro t4 w2 ht4 M; simp only [Act.put, List.setIfInBounds_toArray, List.set_cons_zero, List.set_cons_succ]))
  go_loopw [9] (fun iv wr => (iv = .int .i64 0 ∧ Mem w [] [(t4, .cells (z8 20 ++ [n64 0] ++ z8 32 ++ [nilS, nilS]).toArray 123 (0, 0)), (t3, .cells ((ad 2).map n8).toArray 45 (0, 0))] wr) ∨ (iv = .int .i64 1 ∧ Mem w [] [(t4, .cells (z8 20 ++ [n64 0] ++ z8 32 ++ [nilS, nilS]).toArray 123 (0, 0)), (t3, .cells ((ad 2).map n8).toArray 45 (0, 0))] wr)) (fun iv _ => (2 - intOf iv).toNat)
  case atStart => exact .inl ⟨rfl, M⟩
  case round =>
    clear M
    rcases hrel with ⟨rfl, M⟩ | ⟨rfl, M⟩
    · skip
      go_wp2_with (first
        | ((with_reducible apply W_loadX (b := g) (o := 0) (n := 55) (cs := cur) (vs := (oaS 1 N1 bal1 c1 s1).toArray)); rfl; exact M.kept.row hg (by simp); exact Salg.underlying123; rfl; exact size123; omega; exact HE1.out; simp only [Act.put, List.setIfInBounds_toArray, List.set_cons_zero, List.set_cons_succ])
        | ((with_reducible apply L_allocA (d := 6) M); exact zero123; clear M; intro t6 w3 ht6 M; simp only [Act.put, List.setIfInBounds_toArray, List.set_cons_zero, List.set_cons_succ])
        | ((with_reducible apply W_storeK (b := t6) (vs := (oaS 1 N1 bal1 c1 s1).toArray)); rfl; rfl; exact M.r0; exact size123; (simp [HL1.out, z8]); exact HO1.out; intro w4 K hr3; replace M := Mem.callPut (L1 := []) M (Or.inr ht6) K hr3; clear K hr3; simp only [List.nil_append] at M)
        | ((with_reducible apply W_loadX (b := t6) (o := 0) (n := 20) (vs := ((ad 1).map n8).toArray)); rfl; exact M.r0; exact Salg.underlying45; rfl; exact size45; (simp [HL1.out]); exact oaS_x _ _ _ _ _; simp only [Act.put, List.setIfInBounds_toArray, List.set_cons_zero, List.set_cons_succ])
        | ((with_reducible apply W_loadAll); rfl; exact M.r2; exact Salg.underlying45; rfl; exact size45; simp only [Act.put, List.setIfInBounds_toArray, List.set_cons_zero, List.set_cons_succ])
        | ((with_reducible apply W_eql8 (l := ad 1) (l' := ad 2)); rfl; rfl; exact Salg.underlying45; exact Salg.underlying5; exact size5; exact guard45; rfl; rfl; (rw [show decide (ad 1 = ad 2) = false from by decide]); simp only [Act.put, List.setIfInBounds_toArray, List.set_cons_zero, List.set_cons_succ]))
      go_roundw
      case rel => exact .inr ⟨by go_num, M.tail⟩
      case measure => decide
    · skip
      go_wp2_with (first
        | ((with_reducible apply W_loadX (b := g) (o := 55) (n := 55) (cs := cur) (vs := (oaS 2 N2 bal2 c2 s2).toArray)); rfl; exact M.kept.row hg (by simp); exact Salg.underlying123; rfl; exact size123; omega; exact HE2.out; simp only [Act.put, List.setIfInBounds_toArray, List.set_cons_zero, List.set_cons_succ])
        | ((with_reducible apply L_allocA (d := 6) M); exact zero123; clear M; intro t6 w3 ht6 M; simp only [Act.put, List.setIfInBounds_toArray, List.set_cons_zero, List.set_cons_succ])
        | ((with_reducible apply W_storeK (b := t6) (vs := (oaS 2 N2 bal2 c2 s2).toArray)); rfl; rfl; exact M.r0; exact size123; (simp [HL2.out, z8]); exact HO2.out; intro w4 K hr3; replace M := Mem.callPut (L1 := []) M (Or.inr ht6) K hr3; clear K hr3; simp only [List.nil_append] at M)
        | ((with_reducible apply W_loadX (b := t6) (o := 0) (n := 20) (vs := ((ad 2).map n8).toArray)); rfl; exact M.r0; exact Salg.underlying45; rfl; exact size45; (simp [HL2.out]); exact oaS_x _ _ _ _ _; simp only [Act.put, List.setIfInBounds_toArray, List.set_cons_zero, List.set_cons_succ])
        | ((with_reducible apply W_loadAll); rfl; exact M.r2; exact Salg.underlying45; rfl; exact size45; simp only [Act.put, List.setIfInBounds_toArray, List.set_cons_zero, List.set_cons_succ])
        | ((with_reducible apply W_eql8 (l := ad 2) (l' := ad 2)); rfl; rfl; exact Salg.underlying45; exact Salg.underlying5; exact size5; exact guard45; rfl; rfl; (rw [show decide (ad 2 = ad 2) = true from by decide]); simp only [Act.put, List.setIfInBounds_toArray, List.set_cons_zero, List.set_cons_succ])
        | ((with_reducible apply W_loadAll); rfl; exact M.r0; exact Salg.underlying123; rfl; (rw [size123]; simp [HL2.out]); simp only [Act.put, List.setIfInBounds_toArray, List.set_cons_zero, List.set_cons_succ])
        | ((with_reducible apply W_storeK (b := t4) (vs := (oaS 2 N2 bal2 c2 s2).toArray)); rfl; rfl; exact M.r1; exact size123; (simp [HL2.out, z8]); exact HO2.out; intro w5 K hr3; replace M := Mem.callPut (L1 := [(t6, _)]) M (Or.inr ht4) K hr3; clear K hr3; simp only [List.cons_append, List.nil_append] at M))
      exact ret_cell1 Salg.results126 rfl M.r1 Salg.underlying123 rfl (by rw [size123]; simp [HL2.out]) rfl ⟨rfl, M.kept⟩
end Go.Proofs.YgcsalGreat

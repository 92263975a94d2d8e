/-
  Slots and marks; the walks of (*yp.World).load, isWarmSlot, warmSlot, store.
-/
import Derived.Test.YgcsalGreatSl3
import Derived.Test.YgcsalGreatMv32
import Derived.Test.YgcsalGreatMv10
set_option linter.unusedSimpArgs false
set_option linter.unusedVariables false
namespace Go.Own
def acN (n : Nat) (nv bv cu sl : Value) : Ac := ⟨ad n, [nv, bv, cu, sl]⟩
/-- Three accounts: 1 with its slots, 2, and the sender. -/
def l3 (nv bv cu sl nv2 bv2 cu2 nv3 bv3 : Value) : List Ac := [acN 1 nv bv cu sl, acN 2 nv2 bv2 cu2 nilS, acN 240 nv3 bv3 nilS nilS]
theorem find3_1 (nv bv cu sl nv2 bv2 cu2 nv3 bv3 : Value) : acFind (l3 nv bv cu sl nv2 bv2 cu2 nv3 bv3) (ad 1) = acN 1 nv bv cu sl := by kernel_rfl
theorem find3_2 (nv bv cu sl nv2 bv2 cu2 nv3 bv3 : Value) : acFind (l3 nv bv cu sl nv2 bv2 cu2 nv3 bv3) (ad 2) = acN 2 nv2 bv2 cu2 nilS := by kernel_rfl
theorem find3_240 (nv bv cu sl nv2 bv2 cu2 nv3 bv3 : Value) : acFind (l3 nv bv cu sl nv2 bv2 cu2 nv3 bv3) (ad 240) = acN 240 nv3 bv3 nilS nilS := by kernel_rfl
theorem put3_1 (nv bv cu sl nv2 bv2 cu2 nv3 bv3 s : Value) : acPut (acN 1 nv bv cu s) false (l3 nv bv cu sl nv2 bv2 cu2 nv3 bv3) = l3 nv bv cu s nv2 bv2 cu2 nv3 bv3 := by kernel_rfl
theorem pair_ext {cur : Array Value} {x y : Value} (h0 : cur[0]? = some x) (h1 : cur[1]? = some y) : cur.extract 0 (0 + 2) = #[x, y] := by
  have hsz : 1 < cur.size := (Array.getElem?_eq_some_iff.1 h1).1
  refine extract_list (l := [x, y]) rfl (by omega) ?_
  intro k hk
  have : k = 0 ∨ k = 1 := by omega
  rcases this with rfl | rfl
  · simpa using h0
  · simpa using h1
/-- The slots of an account: none, or one. -/
def SlotV (w : World) (sv : Value) : Option (Nat × Nat) → Prop
  | none => sv = nilS
  | some (K, V) => ∃ g cap cur kv vv, sv = .slice (some ⟨g, 0, none⟩) 1 cap ∧ w.heap[g]? = some (.cells cur 133 (0, 0)) ∧ cur[0]? = some kv ∧ cur[1]? = some vv ∧ NumV w kv K ∧ NumV w vv V
theorem SlotV.kept {w w' : World} {sv : Value} : ∀ {o : Option (Nat × Nat)}, SlotV w sv o → Kept [] w w' → SlotV w' sv o
  | none, h, _ => h
  | some (K, V), h, k => by
    obtain ⟨g, cap, cur, kv, vv, h1, h2, h3, h4, h5, h6⟩ := h
    exact ⟨g, cap, cur, kv, vv, h1, k.row h2 (by simp), h3, h4, h5.kept k, h6.kept k⟩
theorem SlotV.one {w : World} {sv : Value} : ∀ {o : Option (Nat × Nat)}, SlotV w sv o → sv.oneCell' = true
  | none, h => by rw [show sv = nilS from h]; rfl
  | some (K, V), h => by obtain ⟨g, cap, cur, kv, vv, rfl, _⟩ := h; rfl
theorem SlotV.keptC {w w' : World} {sv : Value} {c tc : Nat} {cs : Array Value} (k : Kept [c] w w') (hr : w.heap[c]? = some (.cells cs tc (0, 0))) (ho : ∀ t l, Obj.cells cs tc (0, 0) ≠ R8 t l) (ht : tc ≠ 133) : ∀ {o : Option (Nat × Nat)}, SlotV w sv o → SlotV w' sv o
  | none, h => h
  | some (K, V), h => by
    obtain ⟨g, cap, cur, kv, vv, h1, h2, h3, h4, h5, h6⟩ := h
    exact ⟨g, cap, cur, kv, vv, h1, k.row h2 (row_ne hr h2 (by rintro h; cases h; exact ht rfl)), h3, h4, h5.keptC k hr ho, h6.keptC k hr ho⟩
/-- The marks of warm slots: none, or one of account 1. -/
def MarkV (w : World) (mv : Value) : Option Nat → Prop
  | none => mv = nilS
  | some K => ∃ g cap cur kv, mv = .slice (some ⟨g, 0, none⟩) 1 cap ∧ w.heap[g]? = some (.cells cur 213 (0, 0)) ∧ (∀ k, k < 21 → cur[k]? = ((ad 1).map n8 ++ [kv])[k]?) ∧ NumV w kv K
theorem MarkV.kept {w w' : World} {mv : Value} : ∀ {o : Option Nat}, MarkV w mv o → Kept [] w w' → MarkV w' mv o
  | none, h, _ => h
  | some K, h, k => by
    obtain ⟨g, cap, cur, kv, h1, h2, h3, h4⟩ := h
    exact ⟨g, cap, cur, kv, h1, k.row h2 (by simp), h3, h4.kept k⟩
theorem MarkV.one {w : World} {mv : Value} : ∀ {o : Option Nat}, MarkV w mv o → mv.oneCell' = true
  | none, h => by rw [show mv = nilS from h]; rfl
  | some K, h => by obtain ⟨g, cap, cur, kv, rfl, _⟩ := h; rfl
theorem MarkV.keptC {w w' : World} {mv : Value} {c tc : Nat} {cs : Array Value} (k : Kept [c] w w') (hr : w.heap[c]? = some (.cells cs tc (0, 0))) (ho : ∀ t l, Obj.cells cs tc (0, 0) ≠ R8 t l) (ht : tc ≠ 213) : ∀ {o : Option Nat}, MarkV w mv o → MarkV w' mv o
  | none, h => h
  | some K, h => by
    obtain ⟨g, cap, cur, kv, h1, h2, h3, h4⟩ := h
    exact ⟨g, cap, cur, kv, h1, k.row h2 (row_ne hr h2 (by rintro h; cases h; exact ht rfl)), h3, h4.keptC k hr ho⟩
theorem acN_slots (n : Nat) (nv bv cu sl v : Value) : (acN n nv bv cu sl).cells.toArray.setIfInBounds 23 v = (acN n nv bv cu v).cells.toArray := by kernel_rfl
theorem acN_size (n : Nat) (nv bv cu sl : Value) : (acN n nv bv cu sl).cells.toArray.size = 24 := by kernel_rfl
theorem acN_one {n : Nat} {nv bv cu sl : Value} (h1 : nv.oneCell' = true) (h2 : bv.oneCell' = true) (h3 : cu.oneCell' = true) (h4 : sl.oneCell' = true) : ∀ x ∈ (acN n nv bv cu sl).cells, x.oneCell' = true := by
  apply one_list
  have e : ((acN n nv bv cu sl).cells.all fun u => u.oneCell') = (nv.oneCell' && (bv.oneCell' && (cu.oneCell' && (sl.oneCell' && true)))) := by kernel_rfl
  rw [e, h1, h2, h3, h4]; rfl
end Go.Own
namespace Go.Proofs.YgcsalGreat
open Go.RowKit Go.Own
theorem size133 : (Salg.prog.info? 133).map (·.size) = some 2 := by kernel_rfl
theorem zero133 : ((Salg.prog.info? 133).bind (·.zero)) = some (.agg #[nilS, nilS]) := by kernel_rfl
theorem info133 : (Salg.prog.info? 133).map (fun i => (i.zero, i.size, i.bytes)) = some (some (.agg #[nilS, nilS]), 2, 48) := by kernel_rfl
theorem zero133s : ((Salg.prog.info? 133).bind (·.zero)).isSome = true := by kernel_rfl
theorem size126 : (Salg.prog.info? 126).map (·.size) = some 1 := by kernel_rfl
theorem size213 : (Salg.prog.info? 213).map (·.size) = some 21 := by kernel_rfl
theorem zero213 : ((Salg.prog.info? 213).bind (·.zero)) = some (.agg (z8 20 ++ [nilS]).toArray) := by kernel_rfl
theorem info213 : (Salg.prog.info? 213).map (fun i => (i.zero, i.size, i.bytes)) = some (some (.agg (z8 20 ++ [nilS]).toArray), 21, 48) := by kernel_rfl
theorem zero213s : ((Salg.prog.info? 213).bind (·.zero)).isSome = true := by kernel_rfl
theorem size110 : (Salg.prog.info? 110).map (·.size) = some 1 := by kernel_rfl
theorem account_1 (c tc : Nat) (cs : Array Value) (va nv bv cu sl nv2 bv2 cu2 nv3 bv3 : Value) (w : World) (hr : w.heap[c]? = some (.cells cs tc (0, 0))) (h0 : cs[0]? = some va) (hv : AcsV w va (l3 nv bv cu sl nv2 bv2 cu2 nv3 bv3)) :
    Calls Salg.prog 85 #[.pointer (some ⟨c, 0, none⟩), A8 (ad 1)] w fun e w' => e = .returned (.agg (acN 1 nv bv cu sl).cells.toArray) ∧ Kept [] w w' := by
  have := account_any c tc cs va _ (ad 1) w hr h0 hv rfl
  rw [find3_1] at this
  exact this

set_option maxHeartbeats 4000000 in
set_option maxRecDepth 100000 in
theorem load_none (c tc : Nat) (cs : Array Value) (va nv bv cu sl nv2 bv2 cu2 nv3 bv3 kv : Value) (K : Nat) (w : World) (hc : w.heap[c]? = some (.cells cs tc (0, 0))) (h0 : cs[0]? = some va) (hv : AcsV w va (l3 nv bv cu sl nv2 bv2 cu2 nv3 bv3)) (hs : SlotV w sl none) (hk : NumV w kv K) :
    Calls Salg.prog 225 #[.pointer (some ⟨c, 0, none⟩), A8 (ad 1), kv] w fun e w' => ∃ r, e = .returned r ∧ NumV w' r 0 ∧ Kept [] w w' := by
  have M := Mem.start w []
  have HA := hid hv
  have HK := hid hk
  obtain rfl : sl = nilS := hs
  clear hv hk
  go_enter Salg.func225, Salg.ntmps225
  go_wp2_with (first
    | ((with_reducible apply L_box M); rfl; clear M; intro t4 w1 ht4 M; simp only [Act.put, List.setIfInBounds_toArray, List.set_cons_zero, List.set_cons_succ])
    | ((with_reducible apply W_loadAll); rfl; exact M.r0; exact Salg.underlying45; rfl; exact size45; simp only [Act.put, List.setIfInBounds_toArray, List.set_cons_zero, List.set_cons_succ]))
  refine (account_1 c tc _ va nv bv cu _ nv2 bv2 cu2 nv3 bv3 _ (M.kept.row hc (by simp)) h0 (HA.out.kept M.kept)).mono ?_
  rintro e w2 ⟨rfl, K⟩
  replace M := M.call K
  clear K
  go_wp2_with ((with_reducible apply W_field (v := nilS)); kernel_rfl; simp only [Act.put, List.setIfInBounds_toArray, List.set_cons_zero, List.set_cons_succ])
  go_loopw [14] (fun iv wx => iv = .int .i64 0 ∧ Mem w [] [(t4, .cells ((ad 1).map n8).toArray 45 (0, 0))] wx) (fun _ _ => 0)
  case atStart => exact ⟨rfl, M⟩
  case round =>
    clear M
    obtain ⟨rfl, M⟩ := hrel
    go_wp2_with fail
    go_ret
    exact ⟨_, rfl, nil_num _, M.kept⟩

set_option maxHeartbeats 4000000 in
set_option maxRecDepth 100000 in
theorem load_some (c tc : Nat) (cs : Array Value) (va nv bv cu sl nv2 bv2 cu2 nv3 bv3 kv : Value) (K : Nat) (V : Nat) (w : World) (hc : w.heap[c]? = some (.cells cs tc (0, 0))) (h0 : cs[0]? = some va) (hv : AcsV w va (l3 nv bv cu sl nv2 bv2 cu2 nv3 bv3)) (hs : SlotV w sl (some (K, V))) (hk : NumV w kv K) :
    Calls Salg.prog 225 #[.pointer (some ⟨c, 0, none⟩), A8 (ad 1), kv] w fun e w' => ∃ r, e = .returned r ∧ NumV w' r V ∧ Kept [] w w' := by
  have M := Mem.start w []
  have HA := hid hv
  have HK := hid hk
  obtain ⟨g, cap, cur, sk, sv, rfl, hg, hg0, hg1, xk, xv⟩ := hs
  have HSK := hid xk
  have HSV := hid xv
  have hsz : 2 ≤ cur.size := (Array.getElem?_eq_some_iff.1 hg1).1
  have HEX := hid (pair_ext hg0 hg1)
  clear hv hk xk xv
  go_enter Salg.func225, Salg.ntmps225
  go_wp2_with (first
    | ((with_reducible apply L_box M); rfl; clear M; intro t4 w1 ht4 M; simp only [Act.put, List.setIfInBounds_toArray, List.set_cons_zero, List.set_cons_succ])
    | ((with_reducible apply W_loadAll); rfl; exact M.r0; exact Salg.underlying45; rfl; exact size45; simp only [Act.put, List.setIfInBounds_toArray, List.set_cons_zero, List.set_cons_succ]))
  refine (account_1 c tc _ va nv bv cu _ nv2 bv2 cu2 nv3 bv3 _ (M.kept.row hc (by simp)) h0 (HA.out.kept M.kept)).mono ?_
  rintro e w2 ⟨rfl, K⟩
  replace M := M.call K
  clear K
  go_wp2_with ((with_reducible apply W_field (v := .slice (some ⟨g, 0, none⟩) 1 cap)); kernel_rfl; simp only [Act.put, List.setIfInBounds_toArray, List.set_cons_zero, List.set_cons_succ])
  go_loopw [14] (fun iv wx => iv = .int .i64 0 ∧ Mem w [] [(t4, .cells ((ad 1).map n8).toArray 45 (0, 0))] wx) (fun _ _ => 0)
  case atStart => exact ⟨rfl, M⟩
  case round =>
    clear M
    obtain ⟨rfl, M⟩ := hrel
    have HO2 : Hid (∀ u ∈ (#[sk, sv] : Array Value).toList, u.oneCell' = true) := by
      intro u hu
      simp at hu
      rcases hu with rfl | rfl
      · exact HSK.out.one
      · exact HSV.out.one
    go_wp2_with (first
      | ((with_reducible apply W_loadX (b := g) (o := 0) (n := 2) (cs := cur) (vs := #[sk, sv])); rfl; exact M.kept.row hg (by simp); exact Salg.underlying133; rfl; exact size133; omega; exact HEX.out; simp only [Act.put, List.setIfInBounds_toArray, List.set_cons_zero, List.set_cons_succ])
      | ((with_reducible apply L_allocA (d := 8) M); exact zero133; clear M; intro t8 w3 ht8 M; simp only [Act.put, List.setIfInBounds_toArray, List.set_cons_zero, List.set_cons_succ])
      | ((with_reducible apply W_storeK (b := t8) (vs := #[sk, sv])); rfl; rfl; exact M.r0; exact size133; rfl; exact HO2.out; intro w4 K hr3; replace M := Mem.callPut (L1 := []) M (Or.inr ht8) K hr3; clear K hr3; simp only [List.nil_append] at M)
      | ((with_reducible apply W_loadCell); rfl; exact M.r0; exact (show (#[sk, sv] : Array Value)[0]? = some sk by rfl); exact Salg.underlying89; rfl; simp only [Act.put, List.setIfInBounds_toArray, List.set_cons_zero, List.set_cons_succ]))
    refine (cmp_lit sk kv K K 0 (cmpI_self _) _ (HSK.out.kept M.kept) (HK.out.kept M.kept)).mono ?_
    rintro e w5 ⟨rfl, K⟩
    replace M := M.call K
    clear K
    go_wp2_with ((with_reducible apply W_loadCell); rfl; exact M.r0; exact (show (#[sk, sv] : Array Value)[1]? = some sv by rfl); exact Salg.underlying89; rfl; simp only [Act.put, List.setIfInBounds_toArray, List.set_cons_zero, List.set_cons_succ])
    go_ret
    exact ⟨_, rfl, HSV.out.kept M.kept, M.kept⟩

set_option maxHeartbeats 4000000 in
set_option maxRecDepth 100000 in
theorem isWarmSlot_none (c tc : Nat) (cs : Array Value) (mv kv : Value) (K : Nat) (w : World) (hc : w.heap[c]? = some (.cells cs tc (0, 0))) (h2 : cs[2]? = some mv) (hm : MarkV w mv none) (hk : NumV w kv K) :
    Calls Salg.prog 168 #[.pointer (some ⟨c, 0, none⟩), A8 (ad 1), kv] w fun e w' => e = .returned (.bool false) ∧ Kept [] w w' := by
  have M := Mem.start w []
  have HK := hid hk
  clear hk
  obtain rfl : mv = nilS := hm
  go_enter Salg.func168, Salg.ntmps168
  go_wp2_with (first
    | ((with_reducible apply L_box M); rfl; clear M; intro t4 w1 ht4 M; simp only [Act.put, List.setIfInBounds_toArray, List.set_cons_zero, List.set_cons_succ])
    | ((with_reducible apply W_loadCell); rfl; exact M.kept.row hc (by simp); exact h2; exact Salg.underlying110; rfl; simp only [Act.put, List.setIfInBounds_toArray, List.set_cons_zero, List.set_cons_succ]))
  go_loopw [14] (fun iv wx => iv = .int .i64 0 ∧ Mem w [] [(t4, .cells ((ad 1).map n8).toArray 45 (0, 0))] wx) (fun _ _ => 0)
  case atStart => exact ⟨rfl, M⟩
  case round =>
    clear M
    obtain ⟨rfl, M⟩ := hrel
    go_wp2_with fail
    go_ret
    exact ⟨rfl, M.kept⟩

set_option maxHeartbeats 4000000 in
set_option maxRecDepth 100000 in
theorem isWarmSlot_some (c tc : Nat) (cs : Array Value) (mv kv : Value) (K : Nat) (w : World) (hc : w.heap[c]? = some (.cells cs tc (0, 0))) (h2 : cs[2]? = some mv) (hm : MarkV w mv (some K)) (hk : NumV w kv K) :
    Calls Salg.prog 168 #[.pointer (some ⟨c, 0, none⟩), A8 (ad 1), kv] w fun e w' => e = .returned (.bool true) ∧ Kept [] w w' := by
  have M := Mem.start w []
  have HK := hid hk
  clear hk
  obtain ⟨g, cap, cur, mk, rfl, hg, xc, xm⟩ := hm
  have HMK := hid xm
  have hsz : 21 ≤ cur.size := by
    have h20 : cur[20]? = some mk := (xc 20 (by decide)).trans (by kernel_rfl)
    exact (Array.getElem?_eq_some_iff.1 h20).1
  have HEX : Hid (cur.extract 0 (0 + 21) = ((ad 1).map n8 ++ [mk]).toArray) := extract_list (by kernel_rfl) (by omega) (by intro k hk; simpa using xc k hk)
  clear xm xc
  go_enter Salg.func168, Salg.ntmps168
  go_wp2_with (first
    | ((with_reducible apply L_box M); rfl; clear M; intro t4 w1 ht4 M; simp only [Act.put, List.setIfInBounds_toArray, List.set_cons_zero, List.set_cons_succ])
    | ((with_reducible apply W_loadCell); rfl; exact M.kept.row hc (by simp); exact h2; exact Salg.underlying110; rfl; simp only [Act.put, List.setIfInBounds_toArray, List.set_cons_zero, List.set_cons_succ]))
  go_loopw [14] (fun iv wx => iv = .int .i64 0 ∧ Mem w [] [(t4, .cells ((ad 1).map n8).toArray 45 (0, 0))] wx) (fun _ _ => 0)
  case atStart => exact ⟨rfl, M⟩
  case round =>
    clear M
    obtain ⟨rfl, M⟩ := hrel
    have HO2 : Hid (∀ u ∈ ((ad 1).map n8 ++ [mk]).toArray.toList, u.oneCell' = true) := by
      apply oneL
      have e : (((ad 1).map n8 ++ [mk]).all fun u => u.oneCell') = (mk.oneCell' && true) := by kernel_rfl
      rw [e, HMK.out.one]
      rfl
    go_wp2_with (first
      | ((with_reducible apply W_loadX (b := g) (o := 0) (n := 21) (cs := cur) (vs := ((ad 1).map n8 ++ [mk]).toArray)); rfl; exact M.kept.row hg (by simp); exact Salg.underlying213; rfl; exact size213; omega; exact HEX.out; simp only [Act.put, List.setIfInBounds_toArray, List.set_cons_zero, List.set_cons_succ])
      | ((with_reducible apply L_allocA (d := 8) M); exact zero213; clear M; intro t8 w3 ht8 M; simp only [Act.put, List.setIfInBounds_toArray, List.set_cons_zero, List.set_cons_succ])
      | ((with_reducible apply W_storeK (b := t8) (vs := ((ad 1).map n8 ++ [mk]).toArray)); rfl; rfl; exact M.r0; exact size213; rfl; exact HO2.out; intro w4 K hr3; replace M := Mem.callPut (L1 := []) M (Or.inr ht8) K hr3; clear K hr3; simp only [List.nil_append] at M)
      | ((with_reducible apply W_loadX (b := t8) (o := 0) (n := 20) (vs := ((ad 1).map n8).toArray)); rfl; exact M.r0; exact Salg.underlying45; rfl; exact size45; exact Nat.le_of_ble_eq_true (by kernel_rfl); exact (show ((ad 1).map n8 ++ [mk]).toArray.extract 0 (0 + 20) = _ by kernel_rfl); simp only [Act.put, List.setIfInBounds_toArray, List.set_cons_zero, List.set_cons_succ])
      | ((with_reducible apply W_loadAll); rfl; exact M.r1; exact Salg.underlying45; rfl; exact size45; simp only [Act.put, List.setIfInBounds_toArray, List.set_cons_zero, List.set_cons_succ])
      | ((with_reducible apply W_eql8 (l := ad 1) (l' := ad 1)); rfl; rfl; exact Salg.underlying45; exact Salg.underlying5; exact size5; exact guard45; rfl; rfl; simp only [decide_true]; simp only [Act.put, List.setIfInBounds_toArray, List.set_cons_zero, List.set_cons_succ])
      | ((with_reducible apply W_loadCellG); rfl; rfl; exact M.r0; exact (show ((ad 1).map n8 ++ [mk]).toArray[20]? = some mk by kernel_rfl); exact Salg.underlying89; rfl; simp only [Act.put, List.setIfInBounds_toArray, List.set_cons_zero, List.set_cons_succ]))
    refine (cmp_lit mk kv K K 0 (cmpI_self _) _ (HMK.out.kept M.kept) (HK.out.kept M.kept)).mono ?_
    rintro e w5 ⟨rfl, K⟩
    replace M := M.call K
    clear K
    go_wp2_with fail
    go_ret
    exact ⟨rfl, M.kept⟩
end Go.Proofs.YgcsalGreat

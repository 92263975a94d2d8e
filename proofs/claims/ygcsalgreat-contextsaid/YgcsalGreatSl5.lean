/-
  The walks of (*yp.World).warmSlot and (*yp.World).store.
-/
import Derived.Test.YgcsalGreatSl4
import Derived.Test.YgcsalGreatMv33
set_option linter.unusedSimpArgs false
set_option linter.unusedVariables false
namespace Go.Own
theorem own_first {w : World} {base e s : Nat} {v : Value} {xs : List Value} (h : w.ownsRow base e s v 1 xs) : ∃ g cap cur, v = .slice (some ⟨g, 0, none⟩) 1 cap ∧ base ≤ g ∧ w.heap[g]? = some (.cells cur e (0, 0)) ∧ ∀ k, k < s → cur[k]? = xs[k]? := by
  rcases h.2 with ⟨_, h1⟩ | ⟨g, cap, cur, h1, h2, h3, h4, h5, h6, h7⟩
  · omega
  · refine ⟨g, cap, cur, h1, h2, h3, fun k hk => ?_⟩
    rw [← h7, List.getElem?_take_of_lt (by omega)]
    simp
theorem SlotV.ofOwn {w : World} {base : Nat} {v kv vv : Value} {K V : Nat} (h : w.ownsRow base 133 2 v 1 [kv, vv]) (hk : NumV w kv K) (hv : NumV w vv V) : SlotV w v (some (K, V)) := by
  obtain ⟨g, cap, cur, rfl, _, h2, h3⟩ := own_first h
  exact ⟨g, cap, cur, kv, vv, rfl, h2, h3 0 (by decide), h3 1 (by decide), hk, hv⟩
theorem MarkV.ofOwn {w : World} {base : Nat} {v kv : Value} {K : Nat} (h : w.ownsRow base 213 21 v 1 ((ad 1).map n8 ++ [kv])) (hk : NumV w kv K) : MarkV w v (some K) := by
  obtain ⟨g, cap, cur, rfl, _, h2, h3⟩ := own_first h
  exact ⟨g, cap, cur, kv, rfl, h2, h3, hk⟩
end Go.Own
namespace Go.Proofs.YgcsalGreat
open Go.RowKit Go.Own
theorem warmSlot_some (c tc : Nat) (cs : Array Value) (mv kv : Value) (K : Nat) (w : World) (hc : w.heap[c]? = some (.cells cs tc (0, 0))) (h2 : cs[2]? = some mv) (hm : MarkV w mv (some K)) (hk : NumV w kv K) :
    Calls Salg.prog 94 #[.pointer (some ⟨c, 0, none⟩), A8 (ad 1), kv] w fun e w' => ∃ r, e = .returned r ∧ Kept [] w w' := by
  have M := Mem.start w []
  have HW := hid (fun w' (K' : Kept [] w w') => isWarmSlot_some c tc cs mv kv K w' (K'.row hc (by simp)) h2 (hm.kept K') (hk.kept K'))
  clear hm hk
  go_enter Salg.func94, Salg.ntmps94
  go_wp2_with (first
    | ((with_reducible apply L_box M); rfl; clear M; intro t4 w1 ht4 M; simp only [Act.put, List.setIfInBounds_toArray, List.set_cons_zero, List.set_cons_succ])
    | ((with_reducible apply W_loadAll); rfl; exact M.r0; exact Salg.underlying45; rfl; exact size45; simp only [Act.put, List.setIfInBounds_toArray, List.set_cons_zero, List.set_cons_succ]))
  refine (HW.out _ M.kept).mono ?_
  rintro e w2 ⟨rfl, K⟩
  replace M := M.call K
  clear K
  go_wp2_with fail
  ((try simp only [Exit.inBlock, Exit.then]); refine bodyPost_ret (results_none rfl _ _ _) rfl ?_)
  exact ⟨_, rfl, M.kept⟩

set_option maxHeartbeats 4000000 in
set_option maxRecDepth 100000 in
theorem warmSlot_none (c tc : Nat) (cs : Array Value) (mv kv : Value) (K : Nat) (w : World) (hc : w.heap[c]? = some (.cells cs tc (0, 0))) (h2 : cs[2]? = some mv) (hm : MarkV w mv none) (hk : NumV w kv K) (hnb : ∀ t l, Obj.cells cs tc (0, 0) ≠ R8 t l) (ht : tc ≠ 213) :
    Calls Salg.prog 94 #[.pointer (some ⟨c, 0, none⟩), A8 (ad 1), kv] w fun e w' => ∃ r v', e = .returned r ∧ Kept [c] w w' ∧ w'.heap[c]? = some (.cells (cs.setIfInBounds 2 v') tc (0, 0)) ∧ MarkV w' v' (some K) := by
  have M := Mem.start w []
  have HW := hid (fun w' (K' : Kept [] w w') => isWarmSlot_none c tc cs mv kv K w' (K'.row hc (by simp)) h2 (hm.kept K') (hk.kept K'))
  obtain rfl : mv = nilS := hm
  have HK := hid hk
  have HNB := hid hnb
  obtain ⟨kp, kn, kc, rfl⟩ := hk.slice
  have hcl : c < w.heap.size := lt_of_row hc
  have z2 : 2 < cs.size := (Array.getElem?_eq_some_iff.1 h2).1
  clear hk hnb
  go_enter Salg.func94, Salg.ntmps94
  go_wp2_with (first
    | ((with_reducible apply L_box M); rfl; clear M; intro t4 w1 ht4 M; simp only [Act.put, List.setIfInBounds_toArray, List.set_cons_zero, List.set_cons_succ])
    | ((with_reducible apply W_loadAll); rfl; exact M.r0; exact Salg.underlying45; rfl; exact size45; simp only [Act.put, List.setIfInBounds_toArray, List.set_cons_zero, List.set_cons_succ]))
  refine (HW.out _ M.kept).mono ?_
  rintro e w2 ⟨rfl, K⟩
  replace M := M.call K
  clear K
  go_wp2_with ((with_reducible apply W_loadCell); rfl; exact M.kept.row hc (by simp); exact h2; exact Salg.underlying110; rfl; simp only [Act.put, List.setIfInBounds_toArray, List.set_cons_zero, List.set_cons_succ])
  go_loopw [6, 7, 19] (fun lv bq iv wx => lv = nilS ∧ bq = .bool false ∧ iv = .int .i64 0 ∧ Mem w [] [(t4, .cells ((ad 1).map n8).toArray 45 (0, 0))] wx) (fun _ _ _ _ => 0)
  case atStart => exact ⟨rfl, rfl, rfl, M⟩
  case round =>
    clear M
    obtain ⟨rfl, rfl, rfl, M⟩ := hrel
    have h4c : c ≠ t4 := by omega
    go_wp2_with (first
      | ((with_reducible apply W_loadAll); rfl; exact M.r0; exact Salg.underlying45; rfl; exact size45; simp only [Act.put, List.setIfInBounds_toArray, List.set_cons_zero, List.set_cons_succ])
      | ((with_reducible apply W_buildIt (vs := ((ad 1).map n8 ++ [Value.slice kp kn kc]).toArray) (s := 21) M); rfl; kernel_rfl; exact Salg.underlying110; exact size213; exact zero213s; rfl; decide; decide; clear M; intro bn w3 hbn hbn2 KB M; clear KB hbn2; simp only [Act.put, List.setIfInBounds_toArray, List.set_cons_zero, List.set_cons_succ])
      | ((with_reducible apply W_appendIt (base := w.heap.size) (n := 0) (m := 1) (s := 21) (bn := bn) (so := 0) (xs := []) (news := ((ad 1).map n8 ++ [Value.slice kp kn kc])) (cs := ((ad 1).map n8 ++ [Value.slice kp kn kc]).toArray) M.tail); exact info213; exact Salg.underlying110; rfl; decide; decide; rfl; rfl; exact own_nil _ _ _ _; decide; exact M.r0; rfl; exact cells_news _; exact one_list rfl; exact Nat.le_refl _; exact M.kept.size; (intro p _ h; cases h); clear M; intro VV w4 M xO hb3 KA; have HOW := hid xO; clear xO hb3 KA; have HV1 : Hid (VV.oneCell' = true) := own_one HOW.out; replace M := M.into (M.kept.row hc (by simp)) (by intro p hp; simp at hp; subst hp; exact h4c); simp only [Act.put, List.setIfInBounds_toArray, List.set_cons_zero, List.set_cons_succ])
      | ((with_reducible apply W_stV (b := c) (o := 2) (v := VV)); rfl; rfl; exact HV1.out; exact M.r0; exact size110; exact z2; intro w5 K hr3; have HMV := hid (MarkV.keptC K M.r0 HNB.out ht (MarkV.ofOwn HOW.out (HK.out.keptC M.kept hc HNB.out))); replace M := Mem.callPut (L1 := []) M (Or.inl (by simp)) K hr3; clear K hr3; simp only [List.nil_append] at M))
    go_end0
    exact ⟨_, VV, rfl, M.kept, M.r0, HMV.out⟩

set_option maxHeartbeats 4000000 in
set_option maxRecDepth 100000 in
theorem store_none_zero (c tc : Nat) (cs : Array Value) (va nv bv cu sl nv2 bv2 cu2 nv3 bv3 kv vv : Value) (N K V V0 : Nat) (w : World) (hc : w.heap[c]? = some (.cells cs tc (0, 0))) (h0 : cs[0]? = some va) (hv : AcsV w va (l3 nv bv cu sl nv2 bv2 cu2 nv3 bv3)) (hs : SlotV w sl none) (hk : NumV w kv K) (hx : NumV w vv V) (hV : V = 0) (hn : NumV w nv N) (hN : N ≠ 0) (hb : bv.oneCell' = true) (hcu : cu.oneCell' = true) (hnb : ∀ t l, Obj.cells cs tc (0, 0) ≠ R8 t l) (ht : tc ≠ 128) (ht2 : tc ≠ 133) :
    Calls Salg.prog 246 #[.pointer (some ⟨c, 0, none⟩), A8 (ad 1), kv, vv] w fun e w' => ∃ r v' s', e = .returned r ∧ Kept [c] w w' ∧ w'.heap[c]? = some (.cells (cs.setIfInBounds 0 v') tc (0, 0)) ∧ AcsV w' v' (l3 nv bv cu s' nv2 bv2 cu2 nv3 bv3) ∧ SlotV w' s' none := by
  have M := Mem.start w []
  have HA := hid hv
  have HK := hid hk
  have HX := hid hx
  have HN := hid hn
  have HNB := hid hnb
  have HS1 := hid hs.one
  have HIZ := hid (fun w' (K' : Kept [] w w') => isZero_lit vv V true (by simp [hV]) w' (hx.kept K'))
  have HPT := hid (fun w' s' (K' : Kept [] w w') (h1 : s'.oneCell' = true) => put_any c tc cs va nv N _ (acN 1 nv bv cu s') w' (K'.row hc (by simp)) h0 (hv.kept K') ⟨rfl, rfl, (by intro u hu; simp [acN] at hu; rcases hu with rfl | rfl | rfl | rfl; exact hn.one; exact hb; exact hcu; exact h1), (ad_ok 1 (by decide)).hs⟩ rfl (hn.kept K') hN (by simp [l3]) ht)
  obtain ⟨kp, kn, kc, rfl⟩ := hk.slice
  obtain ⟨vp, vn, vc, rfl⟩ := hx.slice
  obtain rfl : sl = nilS := hs
  clear hv hk hx hnb hV
  have HO1 := hid (oneT (acN_one (n := 1) HN.out.one hb hcu HS1.out))
  clear hn
  go_enter Salg.func246, Salg.ntmps246
  go_wp2_with (first
    | ((with_reducible apply L_box M); rfl; clear M; intro t5 w1 ht5 M; simp only [Act.put, List.setIfInBounds_toArray, List.set_cons_zero, List.set_cons_succ])
    | ((with_reducible apply W_loadAll); rfl; exact M.r0; exact Salg.underlying45; rfl; exact size45; simp only [Act.put, List.setIfInBounds_toArray, List.set_cons_zero, List.set_cons_succ]))
  refine (account_1 c tc _ va nv bv cu _ nv2 bv2 cu2 nv3 bv3 _ (M.kept.row hc (by simp)) h0 (HA.out.kept M.kept)).mono ?_
  rintro e w2 ⟨rfl, K⟩
  replace M := M.call K
  clear K
  go_wp2_with (first
    | ((with_reducible apply L_allocA (d := 8) M); exact zero128; clear M; intro t8 w3 ht8 M; simp only [Act.put, List.setIfInBounds_toArray, List.set_cons_zero, List.set_cons_succ])
    | ((with_reducible apply W_storeK (b := t8) (vs := (acN 1 nv bv cu nilS).cells.toArray)); rfl; rfl; exact M.r0; exact size128; rfl; exact HO1.out; intro w4 K hr3; replace M := Mem.callPut (L1 := []) M (Or.inr ht8) K hr3; clear K hr3; simp only [List.nil_append] at M))
  refine (HIZ.out _ M.kept).mono ?_
  rintro e w5 ⟨rfl, K⟩
  replace M := M.call K
  clear K
  go_wp2_with ((with_reducible apply W_loadCell); rfl; exact M.r0; exact (show (acN 1 nv bv cu nilS).cells.toArray[23]? = some nilS by kernel_rfl); exact Salg.underlying126; rfl; simp only [Act.put, List.setIfInBounds_toArray, List.set_cons_zero, List.set_cons_succ])
  go_loopw [9, 10, 22] (fun lv bq iv wx => lv = nilS ∧ bq = .bool true ∧ iv = .int .i64 0 ∧ Mem w [] [(t8, .cells (acN 1 nv bv cu nilS).cells.toArray 128 (0, 0)), (t5, .cells ((ad 1).map n8).toArray 45 (0, 0))] wx) (fun _ _ _ _ => 0)
  case atStart => exact ⟨rfl, rfl, rfl, M⟩
  case round =>
    clear M
    obtain ⟨rfl, rfl, rfl, M⟩ := hrel
    go_wp2_with (first
      | ((with_reducible apply W_stV (b := t8) (o := 23) (v := nilS)); rfl; rfl; exact rfl; exact M.r0; exact size126; (rw [acN_size]; decide); intro w8 K hr3; rw [acN_slots] at hr3; replace M := Mem.callPut (L1 := []) M (Or.inr ht8) K hr3; clear K hr3; simp only [List.nil_append] at M)
      | ((with_reducible apply W_loadAll); rfl; exact M.r0; exact Salg.underlying128; rfl; exact size128; simp only [Act.put, List.setIfInBounds_toArray, List.set_cons_zero, List.set_cons_succ]))
    have HROW := hid (M.kept.row hc (by simp))
    refine (HPT.out _ nilS M.kept rfl).mono ?_
    rintro e w9 ⟨rr, v9, rfl, K9, hr9, hav⟩
    rw [put3_1] at hav
    have HSV : Hid (SlotV w9 nilS none) := rfl
    have HAV := hid hav
    have HK9 := hid K9
    clear hav K9
    go_wp2_with fail
    go_end0
    exact ⟨_, v9, nilS, rfl, (M.kept.mono (by simp)).trans HK9.out, hr9, HAV.out, HSV.out⟩

set_option maxHeartbeats 4000000 in
set_option maxRecDepth 100000 in
theorem store_none_new (c tc : Nat) (cs : Array Value) (va nv bv cu sl nv2 bv2 cu2 nv3 bv3 kv vv : Value) (N K V V0 : Nat) (w : World) (hc : w.heap[c]? = some (.cells cs tc (0, 0))) (h0 : cs[0]? = some va) (hv : AcsV w va (l3 nv bv cu sl nv2 bv2 cu2 nv3 bv3)) (hs : SlotV w sl none) (hk : NumV w kv K) (hx : NumV w vv V) (hV : V ≠ 0) (hn : NumV w nv N) (hN : N ≠ 0) (hb : bv.oneCell' = true) (hcu : cu.oneCell' = true) (hnb : ∀ t l, Obj.cells cs tc (0, 0) ≠ R8 t l) (ht : tc ≠ 128) (ht2 : tc ≠ 133) :
    Calls Salg.prog 246 #[.pointer (some ⟨c, 0, none⟩), A8 (ad 1), kv, vv] w fun e w' => ∃ r v' s', e = .returned r ∧ Kept [c] w w' ∧ w'.heap[c]? = some (.cells (cs.setIfInBounds 0 v') tc (0, 0)) ∧ AcsV w' v' (l3 nv bv cu s' nv2 bv2 cu2 nv3 bv3) ∧ SlotV w' s' (some (K, V)) := by
  have M := Mem.start w []
  have HA := hid hv
  have HK := hid hk
  have HX := hid hx
  have HN := hid hn
  have HNB := hid hnb
  have HS1 := hid hs.one
  have HIZ := hid (fun w' (K' : Kept [] w w') => isZero_lit vv V false (by simp [hV]) w' (hx.kept K'))
  have HPT := hid (fun w' s' (K' : Kept [] w w') (h1 : s'.oneCell' = true) => put_any c tc cs va nv N _ (acN 1 nv bv cu s') w' (K'.row hc (by simp)) h0 (hv.kept K') ⟨rfl, rfl, (by intro u hu; simp [acN] at hu; rcases hu with rfl | rfl | rfl | rfl; exact hn.one; exact hb; exact hcu; exact h1), (ad_ok 1 (by decide)).hs⟩ rfl (hn.kept K') hN (by simp [l3]) ht)
  obtain ⟨kp, kn, kc, rfl⟩ := hk.slice
  obtain ⟨vp, vn, vc, rfl⟩ := hx.slice
  obtain rfl : sl = nilS := hs
  clear hv hk hx hnb hV
  have HO1 := hid (oneT (acN_one (n := 1) HN.out.one hb hcu HS1.out))
  clear hn
  go_enter Salg.func246, Salg.ntmps246
  go_wp2_with (first
    | ((with_reducible apply L_box M); rfl; clear M; intro t5 w1 ht5 M; simp only [Act.put, List.setIfInBounds_toArray, List.set_cons_zero, List.set_cons_succ])
    | ((with_reducible apply W_loadAll); rfl; exact M.r0; exact Salg.underlying45; rfl; exact size45; simp only [Act.put, List.setIfInBounds_toArray, List.set_cons_zero, List.set_cons_succ]))
  refine (account_1 c tc _ va nv bv cu _ nv2 bv2 cu2 nv3 bv3 _ (M.kept.row hc (by simp)) h0 (HA.out.kept M.kept)).mono ?_
  rintro e w2 ⟨rfl, K⟩
  replace M := M.call K
  clear K
  go_wp2_with (first
    | ((with_reducible apply L_allocA (d := 8) M); exact zero128; clear M; intro t8 w3 ht8 M; simp only [Act.put, List.setIfInBounds_toArray, List.set_cons_zero, List.set_cons_succ])
    | ((with_reducible apply W_storeK (b := t8) (vs := (acN 1 nv bv cu nilS).cells.toArray)); rfl; rfl; exact M.r0; exact size128; rfl; exact HO1.out; intro w4 K hr3; replace M := Mem.callPut (L1 := []) M (Or.inr ht8) K hr3; clear K hr3; simp only [List.nil_append] at M))
  refine (HIZ.out _ M.kept).mono ?_
  rintro e w5 ⟨rfl, K⟩
  replace M := M.call K
  clear K
  go_wp2_with ((with_reducible apply W_loadCell); rfl; exact M.r0; exact (show (acN 1 nv bv cu nilS).cells.toArray[23]? = some nilS by kernel_rfl); exact Salg.underlying126; rfl; simp only [Act.put, List.setIfInBounds_toArray, List.set_cons_zero, List.set_cons_succ])
  go_loopw [9, 10, 22] (fun lv bq iv wx => lv = nilS ∧ bq = .bool false ∧ iv = .int .i64 0 ∧ Mem w [] [(t8, .cells (acN 1 nv bv cu nilS).cells.toArray 128 (0, 0)), (t5, .cells ((ad 1).map n8).toArray 45 (0, 0))] wx) (fun _ _ _ _ => 0)
  case atStart => exact ⟨rfl, rfl, rfl, M⟩
  case round =>
    clear M
    obtain ⟨rfl, rfl, rfl, M⟩ := hrel
    go_wp2_with (first
      | ((with_reducible apply W_buildIt (vs := ([Value.slice kp kn kc, Value.slice vp vn vc]).toArray) (s := 2) M); rfl; kernel_rfl; exact Salg.underlying126; exact size133; exact zero133s; rfl; decide; decide; clear M; intro bn w6 hbn hbn2 KB M; clear KB hbn2; simp only [Act.put, List.setIfInBounds_toArray, List.set_cons_zero, List.set_cons_succ])
      | ((with_reducible apply W_appendIt (base := w.heap.size) (n := 0) (m := 1) (s := 2) (bn := bn) (so := 0) (xs := []) (news := [Value.slice kp kn kc, Value.slice vp vn vc]) (cs := ([Value.slice kp kn kc, Value.slice vp vn vc]).toArray) M.tail); exact info133; exact Salg.underlying126; rfl; decide; decide; rfl; rfl; exact own_nil _ _ _ _; decide; exact M.r0; rfl; exact cells_news _; exact one_list rfl; exact Nat.le_refl _; exact M.kept.size; (intro p _ h; cases h); clear M; intro VV w7 M xO hb3 KA; have HOW := hid xO; clear xO hb3 KA; have HV1 : Hid (VV.oneCell' = true) := own_one HOW.out; simp only [Act.put, List.setIfInBounds_toArray, List.set_cons_zero, List.set_cons_succ])
      | ((with_reducible apply W_stV (b := t8) (o := 23) (v := VV)); rfl; rfl; exact HV1.out; exact M.r0; exact size126; (rw [acN_size]; decide); intro w8 K hr3; rw [acN_slots] at hr3; replace HOW := hid (own_keptC HOW.out K M.r0 (by decide)); replace M := Mem.callPut (L1 := []) M (Or.inr ht8) K hr3; clear K hr3; simp only [List.nil_append] at M)
      | ((with_reducible apply W_loadAll); rfl; exact M.r0; exact Salg.underlying128; rfl; exact size128; simp only [Act.put, List.setIfInBounds_toArray, List.set_cons_zero, List.set_cons_succ]))
    have HROW := hid (M.kept.row hc (by simp))
    refine (HPT.out _ VV M.kept HV1.out).mono ?_
    rintro e w9 ⟨rr, v9, rfl, K9, hr9, hav⟩
    rw [put3_1] at hav
    have HSV : Hid (SlotV w9 VV (some (K, V))) := SlotV.keptC K9 HROW.out HNB.out ht2 (SlotV.ofOwn HOW.out (HK.out.kept M.kept) (HX.out.kept M.kept))
    have HAV := hid hav
    have HK9 := hid K9
    clear hav K9
    go_wp2_with fail
    go_end0
    exact ⟨_, v9, VV, rfl, (M.kept.mono (by simp)).trans HK9.out, hr9, HAV.out, HSV.out⟩

set_option maxHeartbeats 4000000 in
set_option maxRecDepth 100000 in
theorem store_some_zero (c tc : Nat) (cs : Array Value) (va nv bv cu sl nv2 bv2 cu2 nv3 bv3 kv vv : Value) (N K V V0 : Nat) (w : World) (hc : w.heap[c]? = some (.cells cs tc (0, 0))) (h0 : cs[0]? = some va) (hv : AcsV w va (l3 nv bv cu sl nv2 bv2 cu2 nv3 bv3)) (hs : SlotV w sl (some (K, V0))) (hk : NumV w kv K) (hx : NumV w vv V) (hV : V = 0) (hn : NumV w nv N) (hN : N ≠ 0) (hb : bv.oneCell' = true) (hcu : cu.oneCell' = true) (hnb : ∀ t l, Obj.cells cs tc (0, 0) ≠ R8 t l) (ht : tc ≠ 128) (ht2 : tc ≠ 133) :
    Calls Salg.prog 246 #[.pointer (some ⟨c, 0, none⟩), A8 (ad 1), kv, vv] w fun e w' => ∃ r v' s', e = .returned r ∧ Kept [c] w w' ∧ w'.heap[c]? = some (.cells (cs.setIfInBounds 0 v') tc (0, 0)) ∧ AcsV w' v' (l3 nv bv cu s' nv2 bv2 cu2 nv3 bv3) ∧ SlotV w' s' none := by
  have M := Mem.start w []
  have HA := hid hv
  have HK := hid hk
  have HX := hid hx
  have HN := hid hn
  have HNB := hid hnb
  have HS1 := hid hs.one
  have HIZ := hid (fun w' (K' : Kept [] w w') => isZero_lit vv V true (by simp [hV]) w' (hx.kept K'))
  have HPT := hid (fun w' s' (K' : Kept [] w w') (h1 : s'.oneCell' = true) => put_any c tc cs va nv N _ (acN 1 nv bv cu s') w' (K'.row hc (by simp)) h0 (hv.kept K') ⟨rfl, rfl, (by intro u hu; simp [acN] at hu; rcases hu with rfl | rfl | rfl | rfl; exact hn.one; exact hb; exact hcu; exact h1), (ad_ok 1 (by decide)).hs⟩ rfl (hn.kept K') hN (by simp [l3]) ht)
  obtain ⟨kp, kn, kc, rfl⟩ := hk.slice
  obtain ⟨vp, vn, vc, rfl⟩ := hx.slice
  obtain ⟨g, cap, cur, sk, sx, rfl, hg, hg0, hg1, xk, xv⟩ := hs
  have HSK := hid xk
  have HSX1 := hid xv.one
  have hsz : 2 ≤ cur.size := (Array.getElem?_eq_some_iff.1 hg1).1
  have HEX := hid (pair_ext hg0 hg1)
  clear xk xv
  clear hv hk hx hnb hV
  have HO1 := hid (oneT (acN_one (n := 1) HN.out.one hb hcu HS1.out))
  clear hn
  go_enter Salg.func246, Salg.ntmps246
  go_wp2_with (first
    | ((with_reducible apply L_box M); rfl; clear M; intro t5 w1 ht5 M; simp only [Act.put, List.setIfInBounds_toArray, List.set_cons_zero, List.set_cons_succ])
    | ((with_reducible apply W_loadAll); rfl; exact M.r0; exact Salg.underlying45; rfl; exact size45; simp only [Act.put, List.setIfInBounds_toArray, List.set_cons_zero, List.set_cons_succ]))
  refine (account_1 c tc _ va nv bv cu _ nv2 bv2 cu2 nv3 bv3 _ (M.kept.row hc (by simp)) h0 (HA.out.kept M.kept)).mono ?_
  rintro e w2 ⟨rfl, K⟩
  replace M := M.call K
  clear K
  go_wp2_with (first
    | ((with_reducible apply L_allocA (d := 8) M); exact zero128; clear M; intro t8 w3 ht8 M; simp only [Act.put, List.setIfInBounds_toArray, List.set_cons_zero, List.set_cons_succ])
    | ((with_reducible apply W_storeK (b := t8) (vs := (acN 1 nv bv cu (.slice (some ⟨g, 0, none⟩) 1 cap)).cells.toArray)); rfl; rfl; exact M.r0; exact size128; rfl; exact HO1.out; intro w4 K hr3; replace M := Mem.callPut (L1 := []) M (Or.inr ht8) K hr3; clear K hr3; simp only [List.nil_append] at M))
  refine (HIZ.out _ M.kept).mono ?_
  rintro e w5 ⟨rfl, K⟩
  replace M := M.call K
  clear K
  go_wp2_with ((with_reducible apply W_loadCell); rfl; exact M.r0; exact (show (acN 1 nv bv cu (.slice (some ⟨g, 0, none⟩) 1 cap)).cells.toArray[23]? = some (.slice (some ⟨g, 0, none⟩) 1 cap) by kernel_rfl); exact Salg.underlying126; rfl; simp only [Act.put, List.setIfInBounds_toArray, List.set_cons_zero, List.set_cons_succ])
  go_loopw [9, 10, 22] (fun lv bq iv wx => (lv = nilS ∧ bq = .bool true ∧ iv = .int .i64 0 ∧ Mem w [] [(t8, .cells (acN 1 nv bv cu (.slice (some ⟨g, 0, none⟩) 1 cap)).cells.toArray 128 (0, 0)), (t5, .cells ((ad 1).map n8).toArray 45 (0, 0))] wx) ∨ (bq = .bool true ∧ iv = .int .i64 1 ∧ Mem w [] [(t8, .cells (acN 1 nv bv cu (.slice (some ⟨g, 0, none⟩) 1 cap)).cells.toArray 128 (0, 0)), (t5, .cells ((ad 1).map n8).toArray 45 (0, 0))] wx ∧ lv = nilS)) (fun _ _ iv _ => (1 - intOf iv).toNat)
  case atStart => exact .inl ⟨rfl, rfl, rfl, M⟩
  case round =>
    clear M
    rcases hrel with ⟨rfl, rfl, rfl, M⟩ | ⟨rfl, rfl, M, rfl⟩
    · have HO2 : Hid (∀ u ∈ (#[sk, sx] : Array Value).toList, u.oneCell' = true) := by
        intro u hu
        simp at hu
        rcases hu with rfl | rfl
        · exact HSK.out.one
        · exact HSX1.out
      go_wp2_with (first
        | ((with_reducible apply W_loadX (b := g) (o := 0) (n := 2) (cs := cur) (vs := #[sk, sx])); rfl; exact M.kept.row hg (by simp); exact Salg.underlying133; rfl; exact size133; omega; exact HEX.out; simp only [Act.put, List.setIfInBounds_toArray, List.set_cons_zero, List.set_cons_succ])
        | ((with_reducible apply L_allocA (d := 12) M); exact zero133; clear M; intro t12 w6 ht12 M; simp only [Act.put, List.setIfInBounds_toArray, List.set_cons_zero, List.set_cons_succ])
        | ((with_reducible apply W_storeK (b := t12) (vs := #[sk, sx])); rfl; rfl; exact M.r0; exact size133; rfl; exact HO2.out; intro w7 K hr3; replace M := Mem.callPut (L1 := []) M (Or.inr ht12) K hr3; clear K hr3; simp only [List.nil_append] at M)
        | ((with_reducible apply W_loadCell); rfl; exact M.r0; exact (show (#[sk, sx] : Array Value)[0]? = some sk by rfl); exact Salg.underlying89; rfl; simp only [Act.put, List.setIfInBounds_toArray, List.set_cons_zero, List.set_cons_succ]))
      refine (cmp_lit sk (.slice kp kn kc) K K 0 (cmpI_self _) _ (HSK.out.kept M.kept) (HK.out.kept M.kept)).mono ?_
      rintro e w8 ⟨rfl, K⟩
      replace M := M.call K
      clear K
      replace M := M.tail
      go_wp2_with fail
      go_roundw
      case rel => exact .inr ⟨rfl, by go_num, M, rfl⟩
      case measure => decide
    · go_wp2_with (first
        | ((with_reducible apply W_stV (b := t8) (o := 23) (v := nilS)); rfl; rfl; exact rfl; exact M.r0; exact size126; (rw [acN_size]; decide); intro w8 K hr3; rw [acN_slots] at hr3; replace M := Mem.callPut (L1 := []) M (Or.inr ht8) K hr3; clear K hr3; simp only [List.nil_append] at M)
        | ((with_reducible apply W_loadAll); rfl; exact M.r0; exact Salg.underlying128; rfl; exact size128; simp only [Act.put, List.setIfInBounds_toArray, List.set_cons_zero, List.set_cons_succ]))
      have HROW := hid (M.kept.row hc (by simp))
      refine (HPT.out _ nilS M.kept rfl).mono ?_
      rintro e w9 ⟨rr, v9, rfl, K9, hr9, hav⟩
      rw [put3_1] at hav
      have HSV : Hid (SlotV w9 nilS none) := rfl
      have HAV := hid hav
      have HK9 := hid K9
      clear hav K9
      go_wp2_with fail
      go_end0
      exact ⟨_, v9, nilS, rfl, (M.kept.mono (by simp)).trans HK9.out, hr9, HAV.out, HSV.out⟩

set_option maxHeartbeats 4000000 in
set_option maxRecDepth 100000 in
theorem store_some_new (c tc : Nat) (cs : Array Value) (va nv bv cu sl nv2 bv2 cu2 nv3 bv3 kv vv : Value) (N K V V0 : Nat) (w : World) (hc : w.heap[c]? = some (.cells cs tc (0, 0))) (h0 : cs[0]? = some va) (hv : AcsV w va (l3 nv bv cu sl nv2 bv2 cu2 nv3 bv3)) (hs : SlotV w sl (some (K, V0))) (hk : NumV w kv K) (hx : NumV w vv V) (hV : V ≠ 0) (hn : NumV w nv N) (hN : N ≠ 0) (hb : bv.oneCell' = true) (hcu : cu.oneCell' = true) (hnb : ∀ t l, Obj.cells cs tc (0, 0) ≠ R8 t l) (ht : tc ≠ 128) (ht2 : tc ≠ 133) :
    Calls Salg.prog 246 #[.pointer (some ⟨c, 0, none⟩), A8 (ad 1), kv, vv] w fun e w' => ∃ r v' s', e = .returned r ∧ Kept [c] w w' ∧ w'.heap[c]? = some (.cells (cs.setIfInBounds 0 v') tc (0, 0)) ∧ AcsV w' v' (l3 nv bv cu s' nv2 bv2 cu2 nv3 bv3) ∧ SlotV w' s' (some (K, V)) := by
  have M := Mem.start w []
  have HA := hid hv
  have HK := hid hk
  have HX := hid hx
  have HN := hid hn
  have HNB := hid hnb
  have HS1 := hid hs.one
  have HIZ := hid (fun w' (K' : Kept [] w w') => isZero_lit vv V false (by simp [hV]) w' (hx.kept K'))
  have HPT := hid (fun w' s' (K' : Kept [] w w') (h1 : s'.oneCell' = true) => put_any c tc cs va nv N _ (acN 1 nv bv cu s') w' (K'.row hc (by simp)) h0 (hv.kept K') ⟨rfl, rfl, (by intro u hu; simp [acN] at hu; rcases hu with rfl | rfl | rfl | rfl; exact hn.one; exact hb; exact hcu; exact h1), (ad_ok 1 (by decide)).hs⟩ rfl (hn.kept K') hN (by simp [l3]) ht)
  obtain ⟨kp, kn, kc, rfl⟩ := hk.slice
  obtain ⟨vp, vn, vc, rfl⟩ := hx.slice
  obtain ⟨g, cap, cur, sk, sx, rfl, hg, hg0, hg1, xk, xv⟩ := hs
  have HSK := hid xk
  have HSX1 := hid xv.one
  have hsz : 2 ≤ cur.size := (Array.getElem?_eq_some_iff.1 hg1).1
  have HEX := hid (pair_ext hg0 hg1)
  clear xk xv
  clear hv hk hx hnb hV
  have HO1 := hid (oneT (acN_one (n := 1) HN.out.one hb hcu HS1.out))
  clear hn
  go_enter Salg.func246, Salg.ntmps246
  go_wp2_with (first
    | ((with_reducible apply L_box M); rfl; clear M; intro t5 w1 ht5 M; simp only [Act.put, List.setIfInBounds_toArray, List.set_cons_zero, List.set_cons_succ])
    | ((with_reducible apply W_loadAll); rfl; exact M.r0; exact Salg.underlying45; rfl; exact size45; simp only [Act.put, List.setIfInBounds_toArray, List.set_cons_zero, List.set_cons_succ]))
  refine (account_1 c tc _ va nv bv cu _ nv2 bv2 cu2 nv3 bv3 _ (M.kept.row hc (by simp)) h0 (HA.out.kept M.kept)).mono ?_
  rintro e w2 ⟨rfl, K⟩
  replace M := M.call K
  clear K
  go_wp2_with (first
    | ((with_reducible apply L_allocA (d := 8) M); exact zero128; clear M; intro t8 w3 ht8 M; simp only [Act.put, List.setIfInBounds_toArray, List.set_cons_zero, List.set_cons_succ])
    | ((with_reducible apply W_storeK (b := t8) (vs := (acN 1 nv bv cu (.slice (some ⟨g, 0, none⟩) 1 cap)).cells.toArray)); rfl; rfl; exact M.r0; exact size128; rfl; exact HO1.out; intro w4 K hr3; replace M := Mem.callPut (L1 := []) M (Or.inr ht8) K hr3; clear K hr3; simp only [List.nil_append] at M))
  refine (HIZ.out _ M.kept).mono ?_
  rintro e w5 ⟨rfl, K⟩
  replace M := M.call K
  clear K
  go_wp2_with ((with_reducible apply W_loadCell); rfl; exact M.r0; exact (show (acN 1 nv bv cu (.slice (some ⟨g, 0, none⟩) 1 cap)).cells.toArray[23]? = some (.slice (some ⟨g, 0, none⟩) 1 cap) by kernel_rfl); exact Salg.underlying126; rfl; simp only [Act.put, List.setIfInBounds_toArray, List.set_cons_zero, List.set_cons_succ])
  go_loopw [9, 10, 22] (fun lv bq iv wx => (lv = nilS ∧ bq = .bool false ∧ iv = .int .i64 0 ∧ Mem w [] [(t8, .cells (acN 1 nv bv cu (.slice (some ⟨g, 0, none⟩) 1 cap)).cells.toArray 128 (0, 0)), (t5, .cells ((ad 1).map n8).toArray 45 (0, 0))] wx) ∨ (bq = .bool true ∧ iv = .int .i64 1 ∧ Mem w [] [(t8, .cells (acN 1 nv bv cu (.slice (some ⟨g, 0, none⟩) 1 cap)).cells.toArray 128 (0, 0)), (t5, .cells ((ad 1).map n8).toArray 45 (0, 0))] wx ∧ wx.ownsRow w.heap.size 133 2 lv 1 [Value.slice kp kn kc, Value.slice vp vn vc])) (fun _ _ iv _ => (1 - intOf iv).toNat)
  case atStart => exact .inl ⟨rfl, rfl, rfl, M⟩
  case round =>
    clear M
    rcases hrel with ⟨rfl, rfl, rfl, M⟩ | ⟨rfl, rfl, M, xO⟩
    · have HO2 : Hid (∀ u ∈ (#[sk, sx] : Array Value).toList, u.oneCell' = true) := by
        intro u hu
        simp at hu
        rcases hu with rfl | rfl
        · exact HSK.out.one
        · exact HSX1.out
      go_wp2_with (first
        | ((with_reducible apply W_loadX (b := g) (o := 0) (n := 2) (cs := cur) (vs := #[sk, sx])); rfl; exact M.kept.row hg (by simp); exact Salg.underlying133; rfl; exact size133; omega; exact HEX.out; simp only [Act.put, List.setIfInBounds_toArray, List.set_cons_zero, List.set_cons_succ])
        | ((with_reducible apply L_allocA (d := 12) M); exact zero133; clear M; intro t12 w6 ht12 M; simp only [Act.put, List.setIfInBounds_toArray, List.set_cons_zero, List.set_cons_succ])
        | ((with_reducible apply W_storeK (b := t12) (vs := #[sk, sx])); rfl; rfl; exact M.r0; exact size133; rfl; exact HO2.out; intro w7 K hr3; replace M := Mem.callPut (L1 := []) M (Or.inr ht12) K hr3; clear K hr3; simp only [List.nil_append] at M)
        | ((with_reducible apply W_loadCell); rfl; exact M.r0; exact (show (#[sk, sx] : Array Value)[0]? = some sk by rfl); exact Salg.underlying89; rfl; simp only [Act.put, List.setIfInBounds_toArray, List.set_cons_zero, List.set_cons_succ]))
      refine (cmp_lit sk (.slice kp kn kc) K K 0 (cmpI_self _) _ (HSK.out.kept M.kept) (HK.out.kept M.kept)).mono ?_
      rintro e w8 ⟨rfl, K⟩
      replace M := M.call K
      clear K
      replace M := M.tail
      go_wp2_with (first
        | ((with_reducible apply W_buildIt (vs := ([Value.slice kp kn kc, Value.slice vp vn vc]).toArray) (s := 2) M); rfl; kernel_rfl; exact Salg.underlying126; exact size133; exact zero133s; rfl; decide; decide; clear M; intro bn w6 hbn hbn2 KB M; clear KB hbn2; simp only [Act.put, List.setIfInBounds_toArray, List.set_cons_zero, List.set_cons_succ])
        | ((with_reducible apply W_appendIt (base := w.heap.size) (n := 0) (m := 1) (s := 2) (bn := bn) (so := 0) (xs := []) (news := [Value.slice kp kn kc, Value.slice vp vn vc]) (cs := ([Value.slice kp kn kc, Value.slice vp vn vc]).toArray) M.tail); exact info133; exact Salg.underlying126; rfl; decide; decide; rfl; rfl; exact own_nil _ _ _ _; decide; exact M.r0; rfl; exact cells_news _; exact one_list rfl; exact Nat.le_refl _; exact M.kept.size; (intro p _ h; cases h); clear M; intro VV w7 M xO hb3 KA; have HOW := hid xO; clear xO hb3 KA; have HV1 : Hid (VV.oneCell' = true) := own_one HOW.out; simp only [Act.put, List.setIfInBounds_toArray, List.set_cons_zero, List.set_cons_succ]))
      go_roundw
      case rel => exact .inr ⟨rfl, by go_num, M, HOW.out⟩
      case measure => decide
    · have HOW := hid xO
      clear xO
      have HV1 : Hid (Value.oneCell' u9 = true) := own_one HOW.out
      go_wp2_with (first
        | ((with_reducible apply W_stV (b := t8) (o := 23) (v := u9)); rfl; rfl; exact HV1.out; exact M.r0; exact size126; (rw [acN_size]; decide); intro w8 K hr3; rw [acN_slots] at hr3; replace HOW := hid (own_keptC HOW.out K M.r0 (by decide)); replace M := Mem.callPut (L1 := []) M (Or.inr ht8) K hr3; clear K hr3; simp only [List.nil_append] at M)
        | ((with_reducible apply W_loadAll); rfl; exact M.r0; exact Salg.underlying128; rfl; exact size128; simp only [Act.put, List.setIfInBounds_toArray, List.set_cons_zero, List.set_cons_succ]))
      have HROW := hid (M.kept.row hc (by simp))
      refine (HPT.out _ u9 M.kept HV1.out).mono ?_
      rintro e w9 ⟨rr, v9, rfl, K9, hr9, hav⟩
      rw [put3_1] at hav
      have HSV : Hid (SlotV w9 u9 (some (K, V))) := SlotV.keptC K9 HROW.out HNB.out ht2 (SlotV.ofOwn HOW.out (HK.out.kept M.kept) (HX.out.kept M.kept))
      have HAV := hid hav
      have HK9 := hid K9
      clear hav K9
      go_wp2_with fail
      go_end0
      exact ⟨_, v9, u9, rfl, (M.kept.mono (by simp)).trans HK9.out, hr9, HAV.out, HSV.out⟩
end Go.Proofs.YgcsalGreat

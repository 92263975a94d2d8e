/-
  Accounts that are not there: account, setNonce, taken. A frame's cells at any address.
-/
import Derived.Test.YgcsalGreatCx22
import Derived.Test.YgcsalGreatKc9
set_option linter.unusedSimpArgs false
set_option linter.unusedVariables false
namespace Go.Own
open Go.Proofs.YgcsalGreat
theorem AcDs.miss {w : World} {a : List Nat} : ∀ {l : List Ac} {D : List AD}, AcDs w l D → D.find? (fun x => x.adr == a) = none → acFind l a = ⟨a, [nilS, nilS, nilS, nilS]⟩
  | [], [], _, _ => rfl
  | p :: l, x :: D, h, e => by
    rw [List.find?_cons] at e
    by_cases hx : (x.adr == a) = true
    · rw [hx] at e
      cases e
    · have hx' : (x.adr == a) = false := by simpa using hx
      rw [hx'] at e
      have q1 := h.2.miss e
      unfold acFind at q1 ⊢
      rw [List.find?_cons, show (p.adr == a) = false by rw [h.1.1]; exact hx']
      exact q1
  | [], _ :: _, h, _ => h.elim
  | _ :: _, [], h, _ => h.elim
theorem frG_oneL {kd : Nat} {sb : Bool} {gv vv cu iu a0 a1 a3 a6 : Value} {sf cl : List Nat} (h1 : gv.oneCell' = true) (h2 : vv.oneCell' = true) (h3 : cu.oneCell' = true) (h4 : iu.oneCell' = true) (h5 : a0.oneCell' = true) (h6 : a1.oneCell' = true) (h8 : a3.oneCell' = true) (h7 : a6.oneCell' = true) : ∀ u ∈ frG kd sb gv vv cu iu sf cl (wrow5 a0 a1 a3 a6), u.oneCell' = true := by
  intro u hu
  unfold frG at hu
  simp only [List.mem_append] at hu
  rcases hu with hu | hu | hu | hu
  · simp only [List.mem_cons, List.not_mem_nil, or_false] at hu
    rcases hu with rfl | rfl | rfl | rfl | rfl | rfl | rfl | rfl | rfl | rfl | rfl | rfl <;> first | rfl | assumption
  · obtain ⟨x, _, rfl⟩ := List.mem_map.1 hu
    rfl
  · obtain ⟨x, _, rfl⟩ := List.mem_map.1 hu
    rfl
  · exact wrow5_oneL h5 h6 h8 h7 u hu
theorem ext_frGL {cur : Array Value} {q kd : Nat} {sb : Bool} {gv vv cu iu : Value} {sv : List Value} {sf cl : List Nat} (hs : sf.length = 20) (hc : cl.length = 20) (hsz : q + 60 ≤ cur.size) (h : ∀ k, k < 60 → cur[q + k]? = (frG kd sb gv vv cu iu sf cl sv)[k]?) : cur.extract (q + 12) (q + 12 + 20) = (sf.map n8).toArray ∧ cur.extract (q + 32) (q + 32 + 20) = (cl.map n8).toArray := by
  constructor
  · refine extract_list (by simp [hs]) (by omega) fun k hk => ?_
    rw [Nat.add_assoc, h (12 + k) (by omega), frG, List.getElem?_append_right (by simp), List.getElem?_append_left (by simp [hs]; omega)]
    congr 1
    first | (simp; done) | (simp; omega)
  · refine extract_list (by simp [hc]) (by omega) fun k hk => ?_
    rw [Nat.add_assoc, h (32 + k) (by omega), frG, List.getElem?_append_right (by simp; omega), List.getElem?_append_right (by simp [hs]; omega), List.getElem?_append_left (by simp [hs, hc]; omega)]
    congr 1
    first | (simp [hs]; done) | (simp [hs]; omega)
theorem frG_cellsL {cur : Array Value} {q kd : Nat} {sb : Bool} {gv vv cu iu a0 a1 a3 a6 : Value} {sf cl : List Nat} (h : ∀ k, k < 60 → cur[q + k]? = (frG kd sb gv vv cu iu sf cl (wrow5 a0 a1 a3 a6))[k]?) (h1 : gv.oneCell' = true) (h2 : vv.oneCell' = true) (h3 : cu.oneCell' = true) (h4 : iu.oneCell' = true) (ho : a0.oneCell' = true ∧ a1.oneCell' = true ∧ a3.oneCell' = true ∧ a6.oneCell' = true) : ∀ k u, k < 60 → cur[q + k]? = some u → u.oneCell' = true := by
  intro k u hk hu
  rw [h k hk] at hu
  exact frG_oneL (kd := kd) (sb := sb) h1 h2 h3 h4 ho.1 ho.2.1 ho.2.2.1 ho.2.2.2 u (List.mem_of_getElem? hu)
end Go.Own
namespace Go.Proofs.YgcsalGreat
open Go.RowKit Go.Own
theorem account_M (c tc : Nat) (cs : Array Value) (va : Value) (D : List AD) (a : List Nat) (w : World) (hr : w.heap[c]? = some (.cells cs tc (0, 0))) (h0 : cs[0]? = some va) (hv : AccD D w va) (ha : a.length = 20) (hd : D.find? (fun x => x.adr == a) = none) :
    Calls Salg.prog 85 #[.pointer (some ⟨c, 0, none⟩), A8 a] w fun e w' => e = .returned (.agg (⟨a, [nilS, nilS, nilS, nilS]⟩ : Ac).cells.toArray) ∧ Kept [] w w' := by
  obtain ⟨l, h1, h2⟩ := hv
  have := account_any c tc cs va l a w hr h0 h1 ha
  rw [h2.miss hd] at this
  exact this
theorem setNonce_M (c : Nat) (cs : Array Value) (va nn : Value) (N : Nat) (D : List AD) (a : List Nat) (w : World) (hr : w.heap[c]? = some (.cells cs 119 (0, 0))) (hnb : ∀ t l, Obj.cells cs 119 (0, 0) ≠ R8 t l) (h0 : cs[0]? = some va) (hv : AccD D w va) (ha : a.length = 20) (hsa : Small a) (hN : NumV w nn N) (hd : D.find? (fun x => x.adr == a) = none) (hN0 : N ≠ 0) (hll : D.length ≤ 400) :
    Calls Salg.prog 91 #[.pointer (some ⟨c, 0, none⟩), A8 a, nn] w fun e w' => ∃ r v', e = .returned r ∧ Kept [c] w w' ∧ w'.heap[c]? = some (.cells (cs.setIfInBounds 0 v') 119 (0, 0)) ∧ AccD (dPut ⟨a, N, 0, []⟩ false D) w' v' := by
  obtain ⟨l, h1, h2⟩ := hv
  have q1 := h2.miss hd
  refine (setNonce_any c 119 cs va nn N l a w hr h0 h1 ha hsa hN hN0 (by rw [h2.len]; exact hll) (by decide)).mono ?_
  rintro e w' ⟨r, v', rfl, K, k1, k2⟩
  refine ⟨r, v', rfl, K, k1, _, k2, ?_⟩
  have hX := hard1 hr (.inl rfl) hnb
  have hq : AcD w ((acFind l a).put 0 nn) ⟨a, N, 0, []⟩ := by
    rw [q1]
    exact ⟨rfl, nn, nilS, nilS, rfl, hN, nil_num _, NatV.nil _⟩
  exact (h2.put hq false).keptN K hX
theorem creates_one (w : World) : Calls Salg.prog 172 #[.int .u8 1] w fun e w' => e = .returned (.bool true) ∧ w' = w := by
  go_enter Salg.func172, Salg.ntmps172
  go_wp2_with fail
  go_ret
  exact ⟨rfl, rfl⟩
theorem creates_five (w : World) : Calls Salg.prog 172 #[.int .u8 5] w fun e w' => e = .returned (.bool true) ∧ w' = w := by
  go_enter Salg.func172, Salg.ntmps172
  go_wp2_with fail
  go_ret
  exact ⟨rfl, rfl⟩
theorem size128' : (Salg.prog.info? 128).map (·.size) = some 24 := by kernel_rfl

set_option maxHeartbeats 4000000 in
set_option maxRecDepth 100000 in
theorem taken_M (c : Nat) (cs : Array Value) (va : Value) (D : List AD) (a : List Nat) (w : World) (hr : w.heap[c]? = some (.cells cs 119 (0, 0))) (h0 : cs[0]? = some va) (hv : AccD D w va) (ha : a.length = 20) (hd : D.find? (fun x => x.adr == a) = none) :
    Calls Salg.prog 97 #[.pointer (some ⟨c, 0, none⟩), A8 a] w fun e w' => e = .returned (.bool false) ∧ Kept [] w w' := by
  have M := Mem.start w []
  have HAC := hid (fun w' (K : Kept [] w w') => account_M c 119 cs va D a w' (K.row hr (by simp)) h0 ((AccD.still D).kept hv K) ha hd)
  have HL := hid ha
  clear hr h0 hv hd
  obtain ⟨b0, b1, b2, b3, b4, b5, b6, b7, b8, b9, b10, b11, b12, b13, b14, b15, b16, b17, b18, b19, rfl⟩ := list20 ha
  clear ha
  go_enter Salg.func97, Salg.ntmps97
  go_wp2_with ((with_reducible apply L_box (d := 3) M); rfl; clear M; intro t3 w1 ht3 M; simp only [Act.put, List.setIfInBounds_toArray, List.set_cons_zero, List.set_cons_succ])
  refine S_region (by kernel_rfl) ?_
  refine E_float 0 6 [0, 1, 2, 3, 4] 5 5 _ (by kernel_rfl) ⟨⟨_, _, _, _, _, rfl, zero128, rfl⟩⟩ (by simp) M.drew ?_
  clear M
  simp only [List.filterMap_cons, List.filterMap_nil, List.getElem?_cons_zero, List.getElem?_cons_succ]
  ((with_reducible apply E_run); rfl; rfl; (intro w M; go_simp; (try go_ints); (try simp only [↓IntWalk.iteOmega]); (try with_reducible rfl)); simp only [Act.put, List.setIfInBounds_toArray, List.set_cons_zero, List.set_cons_succ])
  ((with_reducible apply E_run); rfl; rfl; (intro w M; go_simp; (try go_ints); (try simp only [↓IntWalk.iteOmega]); (try with_reducible rfl)); simp only [Act.put, List.setIfInBounds_toArray, List.set_cons_zero, List.set_cons_succ])
  ((with_reducible apply E_run); rfl; rfl; (intro w M; go_simp; (try go_ints); (try simp only [↓IntWalk.iteOmega]); (try with_reducible rfl)); simp only [Act.put, List.setIfInBounds_toArray, List.set_cons_zero, List.set_cons_succ])
  ((with_reducible apply E_run (v := .agg ([b0, b1, b2, b3, b4, b5, b6, b7, b8, b9, b10, b11, b12, b13, b14, b15, b16, b17, b18, b19].map n8).toArray)); rfl; rfl; (intro w M; exact run_loadX (n := 20) M.r0 rfl Salg.underlying45 rfl size45 (Nat.le_of_ble_eq_true (by kernel_rfl)) (show ([b0, b1, b2, b3, b4, b5, b6, b7, b8, b9, b10, b11, b12, b13, b14, b15, b16, b17, b18, b19].map n8).toArray.extract 0 (0 + 20) = _ by kernel_rfl)); simp only [Act.put, List.setIfInBounds_toArray, List.set_cons_zero, List.set_cons_succ])
  refine E_call rfl Salg.func85 (by kernel_rfl) (by kernel_rfl) (args := [.pointer (some ⟨c, 0, none⟩), A8 [b0, b1, b2, b3, b4, b5, b6, b7, b8, b9, b10, b11, b12, b13, b14, b15, b16, b17, b18, b19]]) rfl ?_
  intro w1 K M
  clear K
  refine (HAC.out _ M.kept).mono ?_
  rintro e w2 ⟨rfl, K⟩
  replace M := M.call K
  refine ⟨_, rfl, K.mono (by simp), M, ?_⟩
  clear K
  simp only [Act.put, List.setIfInBounds_toArray, List.set_cons_zero, List.set_cons_succ]
  refine E_nil ?_
  intro w3 K M
  clear K
  intro t5 w4 K ht5 M
  clear K
  simp only [Act.put, List.setIfInBounds_toArray, List.set_cons_zero, List.set_cons_succ]
  refine S_seg 6 7 (by kernel_rfl) (by decide) ?_
  simp only [List.take_succ_cons, List.take_zero, List.drop_zero, List.drop_succ_cons, Nat.sub_zero, Nat.reduceSub]
  have HONE : Hid (∀ u ∈ (⟨[b0, b1, b2, b3, b4, b5, b6, b7, b8, b9, b10, b11, b12, b13, b14, b15, b16, b17, b18, b19], [nilS, nilS, nilS, nilS]⟩ : Ac).cells.toArray.toList, u.oneCell' = true) := one_list (by kernel_rfl)
  go_wp2_with ((with_reducible apply W_storeK (b := t5) (vs := (⟨[b0, b1, b2, b3, b4, b5, b6, b7, b8, b9, b10, b11, b12, b13, b14, b15, b16, b17, b18, b19], [nilS, nilS, nilS, nilS]⟩ : Ac).cells.toArray)); rfl; rfl; exact M.r0; exact size128; rfl; exact HONE.out; intro w5 K hr3; replace M := Mem.callPut (L1 := []) M (Or.inr ht5) K hr3; clear K hr3; simp only [List.nil_append] at M)
  refine S_done ?_
  go_wp2_with ((with_reducible apply W_loadCell); rfl; exact M.r0; exact (show (⟨[b0, b1, b2, b3, b4, b5, b6, b7, b8, b9, b10, b11, b12, b13, b14, b15, b16, b17, b18, b19], [nilS, nilS, nilS, nilS]⟩ : Ac).cells.toArray[20]? = some nilS by kernel_rfl); exact Salg.underlying89; rfl; simp only [Act.put, List.setIfInBounds_toArray, List.set_cons_zero, List.set_cons_succ])
  refine (isZero_lit nilS 0 true rfl _ (nil_num _)).mono ?_
  rintro e w6 ⟨rfl, K6⟩
  replace M := M.call K6
  clear K6
  go_wp2_with ((with_reducible apply W_loadCellG); rfl; rfl; exact M.r0; exact (show (⟨[b0, b1, b2, b3, b4, b5, b6, b7, b8, b9, b10, b11, b12, b13, b14, b15, b16, b17, b18, b19], [nilS, nilS, nilS, nilS]⟩ : Ac).cells.toArray[22]? = some nilS by kernel_rfl); exact Salg.underlying40; rfl; simp only [Act.put, List.setIfInBounds_toArray, List.set_cons_zero, List.set_cons_succ])
  go_ret
  exact ⟨rfl, M.kept⟩
end Go.Proofs.YgcsalGreat

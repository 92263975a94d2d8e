/-
  The walk of (*yp.State).leave: a callee that ends well and whose output goes to its caller's memory.
-/
import Derived.Test.YgcsalGreatCp20
set_option linter.unusedSimpArgs false
set_option linter.unusedVariables false
namespace Go.Own
theorem run_slice2 {P : Program} {a : Act} {w : World} {p : Option Addr} {len cap n : Nat} {i : Int} {ki : IntKind} {e t ty' : TypeId} {dst : Option Tmp} {x h : Operand} {pos : String} {after : Array Edge} {g : Option (Nat × Bool)}
    (hx : a.eval x = .slice p len cap) (hh : a.eval h = .int ki i) (hi : i = (n : Nat)) (hu : P.underlying t = some (.slice e)) (hs : ∃ k, (P.info? e).map (·.size) = some k) (hn : n ≤ cap) :
    (execOp a.eval { dst := dst, op := .slice t x none (some h) none, type := ty', pos := pos, after := after, guard := g }).run P w = .ok (.value (.slice p n cap)) w := by
  subst hi
  obtain ⟨k, hk⟩ := hs
  have hsz : (sizeOf e).run P w = .ok k w := by
    cases hq : P.info? e with
    | none => simp [hq] at hk
    | some i => simp [sizeOf, typeInfo, hq] at hk ⊢; exact hk
  have hadd : (fun q : Addr => q.add 0) = id := by funext q; simp [Addr.add]
  have hn' : (n : Int) ≤ (cap : Int) := by omega
  simp [execOp, hx, hh, Instr.sliceAt, Instr.slice, Instr.sliceBounds, Instr.sliceBound, asIntOf, Sem.run_bind, run_underlying hu, hsz, hn, hadd]
/-- min of two numbers. -/
theorem W_min {P : Program} {ops : Array Oper} {Q : Exit → Act → World → Prop} {rest : List Oper} {a : Act} {w : World} {d : Tmp} {ty : TypeId} {x y : Operand} {ts : Array TypeId} {pos : String} {after : Array Edge} {m n k : Nat}
    (hx : a.eval x = .int .u64 (m : Int)) (hy : a.eval y = .int .u64 (n : Int)) (hk : k = min m n) (c : wpList P ops Q rest (a.put (some d) (.int .u64 (k : Int))) w) :
    wpList P ops Q ({ dst := some d, op := .call { callee := .builtin .min, args := #[x, y], argTypes := ts }, type := ty, pos := pos, after := after, guard := none } :: rest) a w := by
  refine L_run rfl ?_ c
  simp only [execOp, resolve, invoke, builtin, Builtin.min_, Builtin.min2, Sem.run_bind, Sem.run_pure, Result.andThen_ok, List.map_toArray, List.map_cons, List.map_nil, hx, hy, List.foldlM_cons, List.foldlM_nil]
  subst hk
  rcases Nat.lt_or_ge n m with h | h
  · simp [h, Nat.min_eq_right (Nat.le_of_lt h)]
  · simp [Nat.min_eq_left h, Nat.not_lt.2 h]
end Go.Own
namespace Go.Proofs.YgcsalGreat
open Go.RowKit Go.Own
theorem add_freshO (w0 : World) (v u : Value) (m n : Nat) (w : World) (hs : w0.heap.size ≤ w.heap.size) (hv : NumV w v m) (hu : NumV w u n) (hm : m < 256 ^ 200) (hn : n < 256 ^ 200) :
    Calls Salg.prog 68 #[v, u] w fun e w' => ∃ r, e = .returned r ∧ NumF w0 w' r (m + n) ∧ Kept [] w w' := by
  refine (add_fresh v u m n w hv hu hm hn).mono ?_
  rintro e w' ⟨r, h1, h2, h3⟩
  exact ⟨r, h1, h2.older hs, h3⟩
theorem num_freshO (w0 : World) (x : Int) (n : Nat) (h : x = n) (hx : n < 18446744073709551616) (w : World) (hs : w0.heap.size ≤ w.heap.size) :
    Calls Salg.prog 87 #[.int .u64 x] w fun e w' => ∃ r, e = .returned r ∧ NumF w0 w' r n ∧ Kept [] w w' := by
  refine (num_fresh x n h hx w).mono ?_
  rintro e w' ⟨r, h1, h2, h3⟩
  exact ⟨r, h1, h2.older hs, h3⟩
set_option maxHeartbeats 4000000 in
set_option maxRecDepth 100000 in
theorem answer_fresh (fb q m t F : Nat) (fs : Array Value) (pv sv fv : Value) (xs : List Value) (w : World) (hr : w.heap[fb]? = some (.cells fs 142 (0, 0))) (h3 : fs[q + 3]? = some pv) (hp : NumV w pv m) (h8 : fs[q + 8]? = some sv) (hs : RowV w 89 sv xs) (hf : NumV w fv F) (hl : xs.length ≤ 40) (hlt : t ≤ xs.length) (hm : m ≤ 1000) :
    Calls Salg.prog 187 #[.pointer (some ⟨fb, q, none⟩), .int .i64 t, fv] w fun e w' => ∃ r v' pv', e = .returned r ∧ Kept [fb] w w' ∧ w'.heap[fb]? = some (.cells ((fs.setIfInBounds (q + 8) v').setIfInBounds (q + 3) pv') 142 (0, 0)) ∧ RowV w' 89 v' (xs.take (xs.length - t) ++ [fv]) ∧ NumF w w' pv' (m + 1) := by
  have M := Mem.start w []
  have HP := hid hp
  have HF := hid hf
  have HU1 := hid hf.one
  obtain ⟨p, cap, rfl⟩ : ∃ p cap, sv = .slice p xs.length cap := by
    rcases hs with ⟨rfl, rfl⟩ | ⟨g, cap, cur, rfl, _⟩
    · exact ⟨none, 0, rfl⟩
    · exact ⟨_, _, rfl⟩
  have HNB := hid (not_bytes_at (tc := 142) h8)
  have HCT := hid (hs.cut (xs.length - t) (by omega))
  have hcap := HCT.out.1
  have HT : Hid (TightV w 89 (.slice p (xs.length - t) (xs.length - t)) (xs.take (xs.length - t))) := HCT.out.2
  have z8 : q + 8 < fs.size := (Array.getElem?_eq_some_iff.1 h8).1
  have z3 : q + 3 < fs.size := (Array.getElem?_eq_some_iff.1 h3).1
  clear hp hs hf HCT
  obtain ⟨n, hn⟩ : ∃ n, n = xs.length := ⟨_, rfl⟩
  rw [← hn] at HT hcap hl hlt h8 ⊢
  have HLN : Hid ((xs.take (n - t)).length ≤ 1000) := by show _ ≤ _; rw [List.length_take]; omega
  have HN := hid hn
  clear hn
  go_enter Salg.func187, Salg.ntmps187
  go_wp2_with (first
    | ((with_reducible apply W_loadCell); rfl; exact M.kept.row hr (by simp); exact h8; exact Salg.underlying140; rfl; simp only [Act.put, List.setIfInBounds_toArray, List.set_cons_zero, List.set_cons_succ])
    | ((with_reducible apply W_slice3 (n := n - t)); rfl; rfl; rfl; (first | rfl | omega); (first | rfl | omega); exact Salg.underlying140; exact ⟨1, size89⟩; exact hcap; simp only [Act.put, List.setIfInBounds_toArray, List.set_cons_zero, List.set_cons_succ])
    | ((with_reducible apply W_buildIt (u := fv) (vs := #[fv]) (s := 1) M); rfl; exact one_cells HU1.out; exact Salg.underlying140; exact size89; exact zsome89; rfl; decide; decide; clear M; intro bn w2 hbn hbn2 KB M; have hsz2 := KB.size; replace HF := hid (HF.out.kept KB); clear KB; simp only [Act.put, List.setIfInBounds_toArray, List.set_cons_zero, List.set_cons_succ])
    | ((with_reducible apply W_appendK (bn := bn) (u := fv) (xs := xs.take (n - t)) M); exact info89; exact Salg.underlying140; rfl; decide; rfl; rfl; exact HT.out.kept M.kept; exact HLN.out; exact M.r0; exact HU1.out; clear M; intro VV w3 M xO KA; have HVV := hid (RowV.own xO); clear xO KA; replace M := M.tail; simp only [Act.put, List.setIfInBounds_toArray, List.set_cons_zero, List.set_cons_succ])
    | ((with_reducible apply W_stV (b := fb) (o := q + 8) (v := VV)); rfl; rfl; exact HVV.out.one; exact M.kept.row hr (by simp); exact size140; exact z8; intro w4 K hr4; have HROW := hid (M.kept.row hr (by simp)); replace HVV := hid (HVV.out.keptC K HROW.out (by decide)); have HPK := hid ((HP.out.kept M.kept).keptC K HROW.out HNB.out); have HKA := hid ((M.kept.mono (by simp)).trans K); have HR4 := hid hr4; clear K hr4; replace M := Mem.start w4 []))
  have h3b : (fs.setIfInBounds (q + 8) VV)[q + 3]? = some pv := (Array.getElem?_setIfInBounds_ne (by omega)).trans h3
  refine S_region (by kernel_rfl) ?_
  refine E_stage 0 7 [0, 1, 2, 3, 4, 5, 6] (by kernel_rfl) M.drew ?_
  clear M
  simp only [List.filterMap_cons, List.filterMap_nil, List.getElem?_cons_zero, List.getElem?_cons_succ]
  ((with_reducible apply E_run); rfl; rfl; (intro w M; go_simp; (try go_ints); (try simp only [↓IntWalk.iteOmega]); (try with_reducible rfl)); simp only [Act.put, List.setIfInBounds_toArray, List.set_cons_zero, List.set_cons_succ])
  ((with_reducible apply E_run); rfl; rfl; (intro w M; go_simp; (try go_ints); (try simp only [↓IntWalk.iteOmega]); (try with_reducible rfl)); simp only [Act.put, List.setIfInBounds_toArray, List.set_cons_zero, List.set_cons_succ])
  ((with_reducible apply E_run); rfl; rfl; (intro w M; go_simp; (try go_ints); (try simp only [↓IntWalk.iteOmega]); (try with_reducible rfl)); simp only [Act.put, List.setIfInBounds_toArray, List.set_cons_zero, List.set_cons_succ])
  ((with_reducible apply E_run); rfl; rfl; (intro w M; go_simp; (try go_ints); (try simp only [↓IntWalk.iteOmega]); (try with_reducible rfl)); simp only [Act.put, List.setIfInBounds_toArray, List.set_cons_zero, List.set_cons_succ])
  ((with_reducible apply E_run); rfl; rfl; (intro w M; exact run_loadCell (M.kept.row HR4.out (by simp)) rfl h3b Salg.underlying89 rfl); simp only [Act.put, List.setIfInBounds_toArray, List.set_cons_zero, List.set_cons_succ])
  refine E_call rfl Salg.func87 (by kernel_rfl) (by kernel_rfl) (args := [.int .u64 1]) rfl ?_
  intro w1 K M
  clear K
  refine (num_int _ 1 rfl (by decide) _).mono ?_
  rintro e w5 ⟨r1, rfl, xH1, K⟩
  have H1 := hid xH1
  clear xH1
  replace M := M.call K
  refine ⟨_, rfl, trivial, M, ?_⟩
  clear K
  simp only [Act.put, List.setIfInBounds_toArray, List.set_cons_zero, List.set_cons_succ]
  refine E_call rfl Salg.func68 (by kernel_rfl) (by kernel_rfl) (args := [pv, r1]) rfl ?_
  intro w1 K M
  replace H1 := hid (H1.out.kept K)
  clear K
  refine (add_freshO w pv r1 m 1 _ (Nat.le_trans HKA.out.size M.kept.size) (HPK.out.kept M.kept) H1.out (by omega) (by decide)).mono ?_
  rintro e w6 ⟨r2, rfl, xH2, K⟩
  have H2 := hid xH2
  clear xH2
  replace H1 := hid (H1.out.kept K)
  replace M := M.call K
  refine ⟨_, rfl, trivial, M, ?_⟩
  clear K
  simp only [Act.put, List.setIfInBounds_toArray, List.set_cons_zero, List.set_cons_succ]
  refine E_nil ?_
  intro w7 K M
  replace H2 := hid (H2.out.kept K)
  clear K
  refine S_seg 7 10 (by kernel_rfl) (by decide) ?_
  simp only [List.take_succ_cons, List.take_zero, List.drop_zero, List.drop_succ_cons, Nat.sub_zero, Nat.reduceSub]
  have HROW2 := hid (M.kept.row HR4.out (by simp))
  have HNB2 : Hid (∀ t l, Obj.cells (fs.setIfInBounds (q + 8) VV) 142 (0, 0) ≠ R8 t l) := by
    obtain ⟨vp, vn, vc, hvv⟩ := rowV_slice HVV.out
    exact not_bytes_at (i := q + 8) (p := vp) (n := vn) (m := vc) (by rw [Array.getElem?_setIfInBounds_self_of_lt z8, hvv])
  go_wp2_with ((with_reducible apply W_stV (b := fb) (o := q + 3) (v := r2)); rfl; rfl; exact H2.out.one; exact HROW2.out; exact size89; (simp; omega); intro w8 K hr8; replace H2 := hid (H2.out.keptC K HROW2.out HNB2.out); replace HVV := hid ((HVV.out.kept M.kept).keptC K HROW2.out (by decide)); have HKB := hid ((HKA.out.trans (M.kept.mono (by simp))).trans K); clear K)
  refine S_done ?_
  go_wp2_with fail
  go_end0
  exact ⟨_, VV, r2, rfl, HKB.out, hr8, HVV.out, H2.out⟩

set_option maxHeartbeats 4000000 in
set_option maxRecDepth 100000 in
theorem write_take (fb q mb sb t O cp n L : Nat) (fs : Array Value) (o : Value) (mem bs es : List Nat) (w : World) (hr : w.heap[fb]? = some (.cells fs 142 (0, 0))) (h9 : fs[q + 9]? = some (.slice (some ⟨mb, 0, none⟩) L L)) (hm : w.heap[mb]? = some (R8 5 mem)) (hs : w.heap[sb]? = some (R8 t es)) (hp : bs <+: es) (ho : NumV w o O) (hL : mem.length = L) (hn : n ≤ bs.length) (hfit : O + n ≤ L) (h0 : 0 < n) (hl : L ≤ 10000) :
    Calls Salg.prog 186 #[.pointer (some ⟨fb, q, none⟩), o, .slice (some ⟨sb, 0, none⟩) n cp] w fun e w' => ∃ r, e = .returned r ∧ w'.heap[mb]? = some (R8 5 (wrB mem O (bs.take n))) ∧ Kept [mb] w w' := by
  have HO := hid ho
  have HM : Hid (w.heap[mb]? = some (.cells (mem.map n8).toArray 5 (0, 0))) := hm
  have HS : Hid (w.heap[sb]? = some (.cells (es.map n8).toArray t (0, 0))) := hs
  have hbl : (bs.take n).length = n := by rw [List.length_take]; omega
  have HLE : Hid (((bs.take n).map n8).length = min n (L - O)) := by show _ = _; rw [List.length_map, hbl]; omega
  have HSR : Hid (∀ (j : Nat) (v : Value), ((bs.take n).map n8)[j]? = some v → (es.map n8).toArray[0 + j]? = some v) := by
    intro j v hj
    rw [Nat.zero_add, List.getElem?_toArray]
    rw [List.getElem?_map] at hj ⊢
    obtain ⟨r, rfl⟩ := hp
    have hjl : j < n := by
      rcases Nat.lt_or_ge j n with h | h
      · exact h
      · rw [List.getElem?_eq_none (by rw [hbl]; exact h)] at hj
        cases hj
    rw [List.getElem?_append_left (by omega)]
    rw [List.getElem?_take_of_lt hjl] at hj
    exact hj
  have HFI : Hid (O + ((bs.take n).map n8).length ≤ (mem.map n8).toArray.size) := by show _ ≤ _; rw [List.length_map, hbl]; simp [hL]; omega
  have HON : Hid (∀ v ∈ (bs.take n).map n8, v.oneCell' = true) := by
    intro v hv
    obtain ⟨x, _, rfl⟩ := List.mem_map.1 hv
    rfl
  have HSP : Hid (((mem.map n8).toArray.toList.take O ++ (bs.take n).map n8 ++ (mem.map n8).toArray.toList.drop (O + ((bs.take n).map n8).length)) = (wrB mem O (bs.take n)).map n8) := by
    show _ = _
    simp [wrB]
  clear ho hm hs
  go_enter Salg.func186, Salg.ntmps186
  go_wp2_with ((with_reducible apply W_loadCell); rfl; exact hr; exact h9; exact Salg.underlying40; rfl; simp only [Act.put, List.setIfInBounds_toArray, List.set_cons_zero, List.set_cons_succ])
  refine (place_in o O L _ HO.out (by omega) (by omega)).mono ?_
  rintro e w1 ⟨rfl, hw⟩
  replace hw := hw.symm
  subst hw
  go_wp2_with (first
    | ((with_reducible apply W_loadCell); rfl; exact hr; exact h9; exact Salg.underlying40; rfl; simp only [Act.put, List.setIfInBounds_toArray, List.set_cons_zero, List.set_cons_succ])
    | ((with_reducible apply W_copyAt (b := mb) (o := O) (b' := sb) (so := 0) (news := (bs.take n).map n8) (cur := (mem.map n8).toArray) (t := 5)); rfl; rfl; exact Salg.underlying40; exact size5; exact HM.out; exact HS.out; exact HLE.out; exact HSR.out; exact HFI.out; exact HON.out; intro w4 K hr4; rw [HSP.out] at hr4; simp only [Act.put, List.setIfInBounds_toArray, List.set_cons_zero, List.set_cons_succ]))
  go_end0
  exact ⟨_, rfl, hr4, K⟩
end Go.Proofs.YgcsalGreat

/-
  A frame's stack; the walks of (*yp.Frame).arg, (*yp.Frame).opcode, yp.operand.
-/
import Derived.Test.YgcsalGreatMv16
import Derived.Test.YgcsalGreatLaws3
set_option linter.unusedSimpArgs false
set_option linter.unusedVariables false
namespace Go.Own
theorem own_row {w : World} {base e : Nat} {v : Value} {n : Nat} {xs : List Value} (h : w.ownsRow base e 1 v n xs) (h0 : 0 < n) : ∃ g cap cur, v = .slice (some ⟨g, 0, none⟩) n cap ∧ w.heap[g]? = some (.cells cur e (0, 0)) ∧ n ≤ cap ∧ cur.size = cap ∧ ∀ i, i < n → cur[i]? = xs[i]? := by
  rcases h.2 with ⟨_, h1⟩ | ⟨g, cap, cur, h1, h2, h3, h4, h5, h6, h7⟩
  · omega
  · refine ⟨g, cap, cur, h1, h3, h4, by simpa using h6, fun i hi => ?_⟩
    rw [← h7, List.getElem?_take_of_lt (by omega)]
    simp
/-- A slice of elements of one cell that holds xs. -/
def RowV (w : World) (e : TypeId) (v : Value) (xs : List Value) : Prop :=
  (v = .slice none 0 0 ∧ xs = []) ∨ ∃ g cap cur, v = .slice (some ⟨g, 0, none⟩) xs.length cap ∧ w.heap[g]? = some (.cells cur e (0, 0)) ∧ xs.length ≤ cap ∧ ∀ i, i < xs.length → cur[i]? = xs[i]?
theorem RowV.kept {w w' : World} {e : TypeId} {v : Value} {xs : List Value} (h : RowV w e v xs) (k : Kept [] w w') : RowV w' e v xs := by
  rcases h with h | ⟨g, cap, cur, h1, h2, h3⟩
  · exact .inl h
  · exact .inr ⟨g, cap, cur, h1, k.row h2 (by simp), h3⟩
theorem RowV.own {w : World} {base e : Nat} {v : Value} {n : Nat} {xs : List Value} (h : w.ownsRow base e 1 v n xs) : RowV w e v xs := by
  have hl : xs.length = n := by simpa using h.1
  rcases Nat.eq_zero_or_pos n with h0 | h0
  · subst h0
    have hx : xs = [] := List.eq_nil_of_length_eq_zero hl
    subst hx
    rcases h.2 with ⟨h1, _⟩ | ⟨g, cap, cur, h1, h2, h3, h4, h5⟩
    · exact .inl ⟨h1, rfl⟩
    · exact .inr ⟨g, cap, cur, h1, h3, by simp, by simp⟩
  · obtain ⟨g, cap, cur, h1, h2, h3, h4, h5⟩ := own_row h h0
    subst hl
    exact .inr ⟨g, cap, cur, h1, h2, h3, h5⟩
theorem RowV.pos {w : World} {e : TypeId} {v : Value} {xs : List Value} (h : RowV w e v xs) (h0 : 0 < xs.length) : ∃ g cap cur, v = .slice (some ⟨g, 0, none⟩) xs.length cap ∧ w.heap[g]? = some (.cells cur e (0, 0)) ∧ xs.length ≤ cap ∧ ∀ i, i < xs.length → cur[i]? = xs[i]? := by
  rcases h with ⟨_, rfl⟩ | h
  · simp at h0
  · exact h
/-- The same, no room behind it. -/
def TightV (w : World) (e : TypeId) (v : Value) (xs : List Value) : Prop :=
  (v = .slice none 0 0 ∧ xs = []) ∨ ∃ g cur, v = .slice (some ⟨g, 0, none⟩) xs.length xs.length ∧ w.heap[g]? = some (.cells cur e (0, 0)) ∧ ∀ i, i < xs.length → cur[i]? = xs[i]?
theorem TightV.kept {w w' : World} {e : TypeId} {v : Value} {xs : List Value} (h : TightV w e v xs) (k : Kept [] w w') : TightV w' e v xs := by
  rcases h with h | ⟨g, cur, h1, h2, h3⟩
  · exact .inl h
  · exact .inr ⟨g, cur, h1, k.row h2 (by simp), h3⟩
theorem RowV.cut {w : World} {e : TypeId} {p : Option Addr} {n cap : Nat} {xs : List Value} (h : RowV w e (.slice p n cap) xs) (k : Nat) (hk : k ≤ xs.length) : k ≤ cap ∧ TightV w e (.slice p k k) (xs.take k) := by
  rcases h with ⟨h1, rfl⟩ | ⟨g, c, cur, h1, h2, h3, h4⟩
  · cases h1
    have : k = 0 := by simpa using hk
    subst this
    exact ⟨by omega, .inl ⟨rfl, by simp⟩⟩
  · cases h1
    refine ⟨by omega, .inr ⟨g, cur, by simp [Nat.min_eq_left hk], h2, fun i hi => ?_⟩⟩
    have hi' : i < k := by simp at hi; omega
    rw [List.getElem?_take_of_lt hi', h4 i (by omega)]
section
variable {P : Program} {ops : Array Oper} {Q : Exit → Act → World → Prop} {rest : List Oper} {a : Act} {w w0 : World} {X : List Nat} {L : List (Nat × Obj)}
theorem run_appendK {d : Option Tmp} {s1 s2 : Operand} {t e ty : TypeId} {pos : String} {after : Array Edge} {gg : Option (Nat × Bool)} {bn by1 : Nat} {z v u : Value} {xs : List Value}
    (hinfo : (P.info? e).map (fun i => (i.zero, i.size, i.bytes)) = some (some z, 1, by1)) (hu : P.underlying t = some (.slice e)) (hzs : z.cells.size = 1) (hby : by1 ≤ 100000)
    (hs1 : a.eval s1 = v) (hs2 : a.eval s2 = .slice (some ⟨bn, 0, none⟩) 1 1) (hv : TightV w e v xs) (hn : xs.length ≤ 1000) (hr : w.heap[bn]? = some (.cells #[u] e (0, 0))) (h1 : u.oneCell' = true) :
    ∃ v' w', (execOp a.eval { dst := d, op := .call { callee := .builtin .append, args := #[s1, s2], argTypes := #[t, t] }, type := ty, pos := pos, after := after, guard := gg }).run P w = .ok (.value v') w' ∧ w'.ownsRow w.heap.size e 1 v' (xs.length + 1) (xs ++ [u]) ∧ Kept [] w w' := by
  rcases hv with ⟨rfl, rfl⟩ | ⟨g, cur, rfl, h2, h3⟩
  · obtain ⟨v', w', e1, e2, e3⟩ := run_appendIt (P := P) (a := a) (w := w) (d := d) (ty := ty) (pos := pos) (after := after) (gg := gg) (base := w.heap.size) (n := 0) (m := 1) (so := 0) (xs := []) (news := [u]) (cs := #[u]) hinfo hu hzs (by decide) hby hs1 hs2 (own_nil _ _ _ _) (by omega) hr (by simp) (by intro j x hj; simpa using hj) (by intro x hx; simp at hx; subst hx; exact h1) (Nat.le_refl _)
    exact ⟨v', w', e1, by simpa using e2, by simpa [Value.ownBlock] using e3⟩
  · exact run_appendG (P := P) (a := a) (w := w) (d := d) (ty := ty) (pos := pos) (after := after) (gg := gg) (s := 1) (m := 1) (so := 0) (news := [u]) (cs := #[u]) hinfo hu hzs (by decide) hby hs1 hs2 h2 (by simp) (fun j x hj => by
      have hlt := (List.getElem?_eq_some_iff.1 hj).1
      rw [h3 j hlt]
      exact hj) (by omega) (by omega) hr (by simp) (by intro j x hj; simpa using hj)
theorem W_appendK {d : Tmp} {s1 s2 : Operand} {t e ty : TypeId} {pos : String} {after : Array Edge} {bn by1 : Nat} {z v u : Value} {xs : List Value} (M : Mem w0 X L w)
    (hinfo : (P.info? e).map (fun i => (i.zero, i.size, i.bytes)) = some (some z, 1, by1)) (hu : P.underlying t = some (.slice e)) (hzs : z.cells.size = 1) (hby : by1 ≤ 100000)
    (hs1 : a.eval s1 = v) (hs2 : a.eval s2 = .slice (some ⟨bn, 0, none⟩) 1 1) (hv : TightV w e v xs) (hn : xs.length ≤ 1000) (hr : w.heap[bn]? = some (.cells #[u] e (0, 0))) (h1 : u.oneCell' = true)
    (k : ∀ v' w', Mem w0 X L w' → w'.ownsRow w.heap.size e 1 v' (xs.length + 1) (xs ++ [u]) → Kept [] w w' → wpList P ops Q rest (a.put (some d) v') w') :
    wpList P ops Q ({ dst := some d, op := .call { callee := .builtin .append, args := #[s1, s2], argTypes := #[t, t] }, type := ty, pos := pos, after := after, guard := none } :: rest) a w := by
  obtain ⟨v', w', h2, h3, h4⟩ := run_appendK (P := P) (a := a) (d := some d) (ty := ty) (pos := pos) (after := after) (gg := none) hinfo hu hzs hby hs1 hs2 hv hn hr h1
  exact L_run rfl h2 (k v' w' (M.call h4) h3 h4)
end
section
variable {P : Program} {w0 : World} {X : List Nat} {L : List (Nat × Obj)} {A : Array Oper} {F : Act → World → Prop} {a : Act} {w : World} {rest : List Oper}
theorem E_appendK {d : Tmp} {s1 s2 : Operand} {t e ty : TypeId} {pos : String} {after : Array Edge} {bn by1 : Nat} {z v u : Value} {xs : List Value}
    (hinfo : (P.info? e).map (fun i => (i.zero, i.size, i.bytes)) = some (some z, 1, by1)) (hu : P.underlying t = some (.slice e)) (hzs : z.cells.size = 1) (hby : by1 ≤ 100000)
    (hs1 : a.eval s1 = v) (hs2 : a.eval s2 = .slice (some ⟨bn, 0, none⟩) 1 1) (hv : TightV w e v xs) (hn : xs.length ≤ 1000) (hr : w.heap[bn]? = some (.cells #[u] e (0, 0))) (h1 : u.oneCell' = true)
    (k : ∀ v' w1 w', Kept [] w w1 → Mem w0 X L w' → w'.ownsRow w1.heap.size e 1 v' (xs.length + 1) (xs ++ [u]) → Kept [] w1 w' → EV P w0 X L (fun _ _ => True) A F rest (a.put (some d) v') w') :
    EV P w0 X L (fun _ _ => True) A F ({ dst := some d, op := .call { callee := .builtin .append, args := #[s1, s2], argTypes := #[t, t] }, type := ty, pos := pos, after := after, guard := none } :: rest) a w := by
  refine E_eff (by simp [Region.wanted]) rfl fun w1 K M => ?_
  obtain ⟨v', w', h2, h3, h4⟩ := run_appendK (P := P) (a := a) (w := w1) (d := some d) (ty := ty) (pos := pos) (after := after) (gg := none) hinfo hu hzs hby hs1 hs2 (hv.kept K) hn (K.row hr (by simp)) h1
  exact ⟨v', w', h2, trivial, M.call h4, k v' w1 w' K (M.call h4) h3 h4⟩
end
end Go.Own
namespace Go.Proofs.YgcsalGreat
open Go.RowKit Go.Own

set_option maxHeartbeats 4000000 in
set_option maxRecDepth 100000 in
theorem arg_any (fb : Nat) (fs : Array Value) (sv u : Value) (xs : List Value) (i : Nat) (w : World) (hr : w.heap[fb]? = some (.cells fs 142 (0, 0))) (h8 : fs[8]? = some sv) (hs : RowV w 89 sv xs) (hi : i < xs.length) (hu : xs[xs.length - 1 - i]? = some u) (hl : xs.length ≤ 1000) :
    Calls Salg.prog 116 #[.pointer (some ⟨fb, 0, none⟩), .int .i64 i] w fun e w' => e = .returned u ∧ Kept [] w w' := by
  have M := Mem.start w []
  obtain ⟨g, cap, cur, rfl, hg, hnc, hcs⟩ := hs.pos (by omega)
  have HU : Hid (cur[xs.length - 1 - i]? = some u) := by show _ = _; rw [hcs _ (by omega)]; exact hu
  clear hs hcs hu
  generalize xs.length = n at *
  have d1 : decide ((n : Int) ≤ (i : Int)) = false := by simp; omega
  go_enter Salg.func116, Salg.ntmps116
  go_wp2_with ((with_reducible apply W_loadCell); rfl; exact M.kept.row hr (by simp); exact h8; exact Salg.underlying140; rfl; simp only [Act.put, List.setIfInBounds_toArray, List.set_cons_zero, List.set_cons_succ])
  refine S_region (by kernel_rfl) ?_
  refine V_quiet 0 14 (by kernel_rfl) (by decide) M.drew ?_
  clear M
  simp only [List.take_succ_cons, List.take_zero, List.drop_zero, List.drop_succ_cons, Nat.sub_zero, Nat.reduceSub]
  ((with_reducible apply V_run); rfl; (intro w M; go_simp; (try go_ints); (try simp only [↓IntWalk.iteOmega]); (try with_reducible rfl)); simp only [Act.put, List.setIfInBounds_toArray, List.set_cons_zero, List.set_cons_succ])
  ((with_reducible apply V_run); rfl; (intro w M; go_simp; (try go_ints); (try simp only [↓IntWalk.iteOmega]); (try with_reducible rfl)); simp only [Act.put, List.setIfInBounds_toArray, List.set_cons_zero, List.set_cons_succ])
  ((with_reducible apply V_run); rfl; (intro w M; go_simp; (try go_ints); (try simp only [↓IntWalk.iteOmega]); (try with_reducible rfl)); simp only [Act.put, List.setIfInBounds_toArray, List.set_cons_zero, List.set_cons_succ])
  ((with_reducible apply V_run); rfl; (intro w M; exact run_loadCell (M.kept.row hr (by simp)) rfl h8 Salg.underlying140 rfl); simp only [Act.put, List.setIfInBounds_toArray, List.set_cons_zero, List.set_cons_succ])
  ((with_reducible apply V_run); rfl; (intro w M; go_simp; (try go_ints); (try simp only [↓IntWalk.iteOmega]); (try with_reducible rfl)); simp only [Act.put, List.setIfInBounds_toArray, List.set_cons_zero, List.set_cons_succ])
  ((with_reducible apply V_run); rfl; (intro w M; go_simp; (try go_ints); (try simp only [↓IntWalk.iteOmega]); (try with_reducible rfl)); simp only [Act.put, List.setIfInBounds_toArray, List.set_cons_zero, List.set_cons_succ])
  ((with_reducible apply V_run); rfl; (intro w M; go_simp; (try go_ints); (try simp only [↓IntWalk.iteOmega]); (try with_reducible rfl)); simp only [Act.put, List.setIfInBounds_toArray, List.set_cons_zero, List.set_cons_succ])
  ((with_reducible apply V_run); rfl; (intro w M; exact run_loadCell (M.kept.row hr (by simp)) rfl h8 Salg.underlying140 rfl); simp only [Act.put, List.setIfInBounds_toArray, List.set_cons_zero, List.set_cons_succ])
  ((with_reducible apply V_run); rfl; (intro w M; go_simp; (try go_ints); (try simp only [↓IntWalk.iteOmega]); (try with_reducible rfl)); simp only [Act.put, List.setIfInBounds_toArray, List.set_cons_zero, List.set_cons_succ])
  ((with_reducible apply V_run); rfl; (intro w M; go_simp; (try go_ints); (try simp only [↓IntWalk.iteOmega]); (try with_reducible rfl)); simp only [Act.put, List.setIfInBounds_toArray, List.set_cons_zero, List.set_cons_succ])
  ((with_reducible apply V_run); rfl; (intro w M; go_simp; (try go_ints); (try simp only [↓IntWalk.iteOmega]); (try with_reducible rfl)); simp only [Act.put, List.setIfInBounds_toArray, List.set_cons_zero, List.set_cons_succ])
  ((with_reducible apply V_run); rfl; (intro w M; go_simp; (try go_ints); (try simp only [↓IntWalk.iteOmega]); (try with_reducible rfl)); simp only [Act.put, List.setIfInBounds_toArray, List.set_cons_zero, List.set_cons_succ])
  ((with_reducible apply V_run); rfl; (intro w M; go_simp; (try go_ints); (try simp only [↓IntWalk.iteOmega]); (try with_reducible rfl)); simp only [Act.put, List.setIfInBounds_toArray, List.set_cons_zero, List.set_cons_succ])
  ((with_reducible apply V_run); rfl; (intro w M; exact run_loadCell (M.kept.row hg (by simp)) rfl HU.out Salg.underlying89 rfl); simp only [Act.put, List.setIfInBounds_toArray, List.set_cons_zero, List.set_cons_succ])
  refine V_nil ?_
  intro w4 M
  refine S_seg 14 15 (by kernel_rfl) (by decide) ?_
  simp only [List.take_succ_cons, List.take_zero, List.drop_zero, List.drop_succ_cons, Nat.sub_zero, Nat.reduceSub]
  go_wp2_with fail
  refine S_done ?_
  go_wp2_with fail
  go_ret
  exact ⟨rfl, M.kept⟩

set_option maxHeartbeats 4000000 in
set_option maxRecDepth 100000 in
theorem opcode_in (fb m o : Nat) (fs : Array Value) (pv cv : Value) (ds : List Nat) (w : World) (hr : w.heap[fb]? = some (.cells fs 142 (0, 0))) (h3 : fs[3]? = some pv) (h10 : fs[10]? = some cv) (hp : NumV w pv m) (hc : NatV w cv ds) (hm : ds[m]? = some o) (hl : ds.length ≤ 1000) :
    Calls Salg.prog 110 #[.pointer (some ⟨fb, 0, none⟩)] w fun e w' => e = .returned (n8 o) ∧ Kept [] w w' := by
  have M := Mem.start w []
  have hlt : m < ds.length := (List.getElem?_eq_some_iff.1 hm).1
  obtain ⟨p, c, rfl, hc1, hc2, hd, hsm⟩ := hc
  obtain ⟨b, t, cs, rfl, hrb, hpre⟩ := hd.at hlt
  have HM : Hid ((cs.map n8).toArray[m]? = some (n8 o)) := by
    show _ = _
    have := pre_get hpre hlt
    rw [List.getElem?_eq_getElem hlt] at hm
    simp only [Option.some.injEq] at hm
    simp [this, hm]
  have HP := hid hp
  clear hd hpre hsm hm hp
  generalize ds.length = n at *
  have HPL := hid (fun w' (K : Kept [] w w') => place_in pv m n w' (HP.out.kept K) (by omega) hlt)
  go_enter Salg.func110, Salg.ntmps110
  go_wp2_with fail
  refine S_region (by kernel_rfl) ?_
  refine V_quiet 0 9 (by kernel_rfl) (by decide) M.drew ?_
  clear M
  simp only [List.take_succ_cons, List.take_zero, List.drop_zero, List.drop_succ_cons, Nat.sub_zero, Nat.reduceSub]
  ((with_reducible apply V_run); rfl; (intro w M; go_simp; (try go_ints); (try simp only [↓IntWalk.iteOmega]); (try with_reducible rfl)); simp only [Act.put, List.setIfInBounds_toArray, List.set_cons_zero, List.set_cons_succ])
  ((with_reducible apply V_run); rfl; (intro w M; go_simp; (try go_ints); (try simp only [↓IntWalk.iteOmega]); (try with_reducible rfl)); simp only [Act.put, List.setIfInBounds_toArray, List.set_cons_zero, List.set_cons_succ])
  ((with_reducible apply V_run); rfl; (intro w M; go_simp; (try go_ints); (try simp only [↓IntWalk.iteOmega]); (try with_reducible rfl)); simp only [Act.put, List.setIfInBounds_toArray, List.set_cons_zero, List.set_cons_succ])
  ((with_reducible apply V_run); rfl; (intro w M; exact run_loadCell (M.kept.row hr (by simp)) rfl h3 Salg.underlying89 rfl); simp only [Act.put, List.setIfInBounds_toArray, List.set_cons_zero, List.set_cons_succ])
  ((with_reducible apply V_run); rfl; (intro w M; go_simp; (try go_ints); (try simp only [↓IntWalk.iteOmega]); (try with_reducible rfl)); simp only [Act.put, List.setIfInBounds_toArray, List.set_cons_zero, List.set_cons_succ])
  ((with_reducible apply V_run); rfl; (intro w M; go_simp; (try go_ints); (try simp only [↓IntWalk.iteOmega]); (try with_reducible rfl)); simp only [Act.put, List.setIfInBounds_toArray, List.set_cons_zero, List.set_cons_succ])
  ((with_reducible apply V_run); rfl; (intro w M; go_simp; (try go_ints); (try simp only [↓IntWalk.iteOmega]); (try with_reducible rfl)); simp only [Act.put, List.setIfInBounds_toArray, List.set_cons_zero, List.set_cons_succ])
  ((with_reducible apply V_run); rfl; (intro w M; exact run_loadCell (M.kept.row hr (by simp)) rfl h10 Salg.underlying40 rfl); simp only [Act.put, List.setIfInBounds_toArray, List.set_cons_zero, List.set_cons_succ])
  ((with_reducible apply V_run); rfl; (intro w M; go_simp; (try go_ints); (try simp only [↓IntWalk.iteOmega]); (try with_reducible rfl)); simp only [Act.put, List.setIfInBounds_toArray, List.set_cons_zero, List.set_cons_succ])
  refine V_nil ?_
  intro w4 M
  refine S_seg 9 11 (by kernel_rfl) (by decide) ?_
  simp only [List.take_succ_cons, List.take_zero, List.drop_zero, List.drop_succ_cons, Nat.sub_zero, Nat.reduceSub]
  go_wp2_with fail
  refine (HPL.out _ M.kept).mono ?_
  rintro e w5 ⟨rfl, rfl⟩
  go_wp2_with fail
  refine V_quiet 11 15 (by kernel_rfl) (by decide) M ?_
  clear M
  simp only [List.take_succ_cons, List.take_zero, List.drop_zero, List.drop_succ_cons, Nat.sub_zero, Nat.reduceSub]
  ((with_reducible apply V_run); rfl; (intro w M; go_simp; (try go_ints); (try simp only [↓IntWalk.iteOmega]); (try with_reducible rfl)); simp only [Act.put, List.setIfInBounds_toArray, List.set_cons_zero, List.set_cons_succ])
  ((with_reducible apply V_run); rfl; (intro w M; go_simp; (try go_ints); (try simp only [↓IntWalk.iteOmega]); (try with_reducible rfl)); simp only [Act.put, List.setIfInBounds_toArray, List.set_cons_zero, List.set_cons_succ])
  ((with_reducible apply V_run); rfl; (intro w M; go_simp; (try go_ints); (try simp only [↓IntWalk.iteOmega]); (try with_reducible rfl)); simp only [Act.put, List.setIfInBounds_toArray, List.set_cons_zero, List.set_cons_succ])
  ((with_reducible apply V_run); rfl; (intro w M; go_simp; (try go_ints); (try simp only [↓IntWalk.iteOmega]); (try with_reducible rfl)); simp only [Act.put, List.setIfInBounds_toArray, List.set_cons_zero, List.set_cons_succ])
  refine V_nil ?_
  intro w5 M
  refine S_done ?_
  go_wp2_with (first
    | ((with_reducible apply W_loadCell); rfl; exact M.kept.row hr (by simp); exact h10; exact Salg.underlying40; rfl; simp only [Act.put, List.setIfInBounds_toArray, List.set_cons_zero, List.set_cons_succ])
    | ((with_reducible apply W_loadCell); rfl; exact M.kept.row hrb (by simp); exact HM.out; exact Salg.underlying5; rfl; simp only [Act.put, List.setIfInBounds_toArray, List.set_cons_zero, List.set_cons_succ]))
  go_ret
  exact ⟨rfl, M.kept⟩

set_option maxHeartbeats 4000000 in
set_option maxRecDepth 100000 in
theorem operand_in (i g n c : Nat) (cs : Array Value) (u : Value) (w : World) (hg : w.heap[g]? = some (.cells cs 89 (0, 0))) (hn : i < n) (hn2 : n ≤ 1000) (hu : cs[i]? = some u) :
    Calls Salg.prog 222 #[.slice (some ⟨g, 0, none⟩) n c, .int .i64 i] w fun e w' => e = .returned u ∧ w' = w := by
  have d1 : decide ((i : Int) < (n : Int)) = true := by simp; omega
  go_enter Salg.func222, Salg.ntmps222
  go_wp2_with ((with_reducible apply W_loadCell); rfl; exact hg; exact hu; exact Salg.underlying89; rfl; simp only [Act.put, List.setIfInBounds_toArray, List.set_cons_zero, List.set_cons_succ])
  go_ret
  exact ⟨rfl, rfl⟩

set_option maxHeartbeats 4000000 in
set_option maxRecDepth 100000 in
theorem operand_out (i : Nat) (p : Option Addr) (n c : Nat) (w : World) (hn : n ≤ i) :
    Calls Salg.prog 222 #[.slice p n c, .int .i64 i] w fun e w' => e = .returned (.slice none 0 0) ∧ w' = w := by
  have d1 : decide ((i : Int) < (n : Int)) = false := by simp; omega
  go_enter Salg.func222, Salg.ntmps222
  go_wp2_with fail
  go_ret
  exact ⟨rfl, rfl⟩
end Go.Proofs.YgcsalGreat

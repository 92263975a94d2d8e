/-
  What stands when the chain's own row is written; the walk of (*yp.World).warm.
-/
import Derived.Test.YgcsalGreatMv11
set_option linter.unusedSimpArgs false
set_option linter.unusedVariables false
namespace Go.Own
section
variable {w w' : World} {c tc : Nat} {cs : Array Value} {v : Value}
theorem row_ne {g : Nat} {o : Obj} (hr : w.heap[c]? = some (.cells cs tc (0, 0))) (hg : w.heap[g]? = some o) (h : o ≠ .cells cs tc (0, 0)) : g ∉ [c] := by
  intro he
  simp at he
  subst he
  rw [hr] at hg
  cases hg
  exact h rfl
theorem own_keptC {base e s n : Nat} {xs : List Value} (h : w.ownsRow base e s v n xs) (k : Kept [c] w w') (hr : w.heap[c]? = some (.cells cs tc (0, 0))) (ht : tc ≠ e) : w'.ownsRow base e s v n xs := by
  refine ⟨h.1, ?_⟩
  rcases h.2 with h1 | ⟨g, cap, cur, h1, h2, h3, h4⟩
  · exact .inl h1
  · exact .inr ⟨g, cap, cur, h1, h2, k.row h3 (row_ne hr h3 (by rintro h; cases h; exact ht rfl)), h4⟩
theorem AdsV.keptC {l : List (List Nat)} (h : AdsV w v l) (k : Kept [c] w w') (hr : w.heap[c]? = some (.cells cs tc (0, 0))) (ht : tc ≠ 45) : AdsV w' v l := ⟨own_keptC h.own k hr ht, h.ok, h.len⟩
theorem AcsV.keptC {l : List Ac} (h : AcsV w v l) (k : Kept [c] w w') (hr : w.heap[c]? = some (.cells cs tc (0, 0))) (ht : tc ≠ 128) : AcsV w' v l := ⟨own_keptC h.own k hr ht, h.ok, h.len⟩
/-- A row whose first cell is a slice is no row of bytes. -/
theorem not_bytes {p : Option Addr} {n m : Nat} (h0 : cs[0]? = some (.slice p n m)) : ∀ t l, Obj.cells cs tc (0, 0) ≠ R8 t l := by
  intro t l e
  cases e
  simp at h0
theorem NatV.keptC {ds : List Nat} (h : NatV w v ds) (k : Kept [c] w w') (hr : w.heap[c]? = some (.cells cs tc (0, 0))) (ho : ∀ t l, Obj.cells cs tc (0, 0) ≠ R8 t l) : NatV w' v ds := by
  obtain ⟨p, cp, h1, h2, h3, h4, h5⟩ := h
  refine ⟨p, cp, h1, h2, h3, ?_, h5⟩
  rcases h4 with h4 | ⟨b, t, cs', e1, e2, e3⟩
  · exact .inl h4
  · exact .inr ⟨b, t, cs', e1, k.row e2 (row_ne hr e2 (ho t cs').symm), e3⟩
theorem NumV.keptC {n : Nat} (h : NumV w v n) (k : Kept [c] w w') (hr : w.heap[c]? = some (.cells cs tc (0, 0))) (ho : ∀ t l, Obj.cells cs tc (0, 0) ≠ R8 t l) : NumV w' v n := by
  obtain ⟨ds, h1, h2⟩ := h
  exact ⟨ds, h1.keptC k hr ho, h2⟩
end
section
variable {P : Program} {ops : Array Oper} {Q : Exit → Act → World → Prop} {rest : List Oper} {a : Act} {w : World}
/-- A cell of a row of mixed values is stored. -/
theorem W_stC {b o : Nat} {cs : Array Value} {v : Value} {t : TypeId} {x y : Operand} {ty ty' : TypeId} {pos : String} {after : Array Edge}
    (hx : a.eval x = .pointer (some ⟨b, o, none⟩)) (hy : a.eval y = v) (h1 : v.oneCell' = true) (hr : w.heap[b]? = some (.cells cs t (0, 0)))
    (hi : (P.info? ty).map (·.size) = some 1) (hle : o < cs.size) (k : ∀ w', Kept [b] w w' → w'.heap[b]? = some (.cells (cs.setIfInBounds o v) t (0, 0)) → wpList P ops Q rest a w') :
    wpList P ops Q ({ dst := none, op := .store ty x y, type := ty', pos := pos, after := after, guard := none } :: rest) a w := by
  obtain ⟨g1, g2⟩ := kept_put (lt_of_row hr) (.cells (cs.setIfInBounds o v) t (0, 0)) hr
  have hrun := run_storeCell (dst := none) (ty' := ty') (pos := pos) (after := after) (g := none) hr hx hy h1 hi hle
  exact wpList_plain rfl fun K hK => by unfold Oper.wp; rw [hrun]; exact hK _ _ (k _ g1 g2)
theorem AdsV.one {v : Value} {l : List (List Nat)} (h : AdsV w v l) : v.oneCell' = true := by
  obtain ⟨p, n, cap, rfl, _⟩ := h.shape
  rfl
end
end Go.Own
namespace Go.Proofs.YgcsalGreat
open Go.RowKit Go.Own

set_option maxHeartbeats 4000000 in
set_option maxRecDepth 100000 in
theorem warm_any (c tc : Nat) (cs : Array Value) (va : Value) (l : List (List Nat)) (a : List Nat) (w : World) (hr : w.heap[c]? = some (.cells cs tc (0, 0))) (h0 : cs[1]? = some va) (hv : AdsV w va l) (ha : AdOk a) (hll : l.length ≤ 400) (htc : tc ≠ 45) :
    Calls Salg.prog 93 #[.pointer (some ⟨c, 0, none⟩), A8 a] w fun e w' => ∃ r v', e = .returned r ∧ Kept [c] w w' ∧ w'.heap[c]? = some (.cells (cs.setIfInBounds 1 v') tc (0, 0)) ∧ AdsV w' v' (adWith l a) := by
  have M : Mem w [c] [(c, .cells cs tc (0, 0))] w := (Mem.start w [c]).add hr (by simp)
  have ha20 := ha.ha
  have hsz : 1 < cs.size := by
    rcases Nat.lt_or_ge 1 cs.size with h | h
    · exact h
    · rw [Array.getElem?_eq_none h] at h0; cases h0
  have HWA := hid (fun w' (K : Kept [c] w w') => withAddr_any va l a w' (hv.keptC K hr htc) ha hll)
  clear hv
  go_enter Salg.func93, Salg.ntmps93
  go_wp2_with ((with_reducible apply L_box (d := 3) M); rfl; clear M; intro c1 w1 hc1 M; simp only [Act.put, List.setIfInBounds_toArray, List.set_cons_zero, List.set_cons_succ])
  refine S_region (by kernel_rfl) ?_
  replace M := M.drew
  refine C_stage 7 [0, 1, 2, 3, 4, 5, 6] (by kernel_rfl) M ?_
  simp only [List.filterMap_cons, List.filterMap_nil, List.getElem?_cons_zero, List.getElem?_cons_succ]
  ((with_reducible apply C_run); rfl; rfl; (intro w M; go_simp; (try go_ints); (try simp only [↓IntWalk.iteOmega]); (try with_reducible rfl)); simp only [Act.put, List.setIfInBounds_toArray, List.set_cons_zero, List.set_cons_succ])
  ((with_reducible apply C_run); rfl; rfl; (intro w M; go_simp; (try go_ints); (try simp only [↓IntWalk.iteOmega]); (try with_reducible rfl)); simp only [Act.put, List.setIfInBounds_toArray, List.set_cons_zero, List.set_cons_succ])
  ((with_reducible apply C_run); rfl; rfl; (intro w M; go_simp; (try go_ints); (try simp only [↓IntWalk.iteOmega]); (try with_reducible rfl)); simp only [Act.put, List.setIfInBounds_toArray, List.set_cons_zero, List.set_cons_succ])
  ((with_reducible apply C_run); rfl; rfl; (intro w M; go_simp; (try go_ints); (try simp only [↓IntWalk.iteOmega]); (try with_reducible rfl)); simp only [Act.put, List.setIfInBounds_toArray, List.set_cons_zero, List.set_cons_succ])
  ((with_reducible apply C_run); rfl; rfl; (intro w M; exact Go.Own.run_loadCell M.r1 rfl h0 Salg.underlying109 rfl); simp only [Act.put, List.setIfInBounds_toArray, List.set_cons_zero, List.set_cons_succ])
  ((with_reducible apply C_run); rfl; rfl; (intro w M; exact run_loadAll (by (first | with_reducible exact M.r0 | with_reducible exact M.r1 | with_reducible exact M.r2 | with_reducible exact M.r3 | with_reducible exact M.r4 | with_reducible exact M.r5 | with_reducible exact M.r6 | assumption | exact M.kept.row (by assumption) (by simp))) rfl Salg.underlying45 rfl (by first | with_reducible exact size45 | (rw [size45]; simp [ha20]))); simp only [Act.put, List.setIfInBounds_toArray, List.set_cons_zero, List.set_cons_succ])
  refine C_call rfl Salg.func167 (by kernel_rfl) (by kernel_rfl) (args := [va, A8 a]) rfl ?_
  refine (HWA.out _ M.kept).mono ?_
  rintro e w2 ⟨V1, rfl, xHV1, K⟩
  have HV1 := hid xHV1
  replace M := M.call K
  clear K xHV1
  refine ⟨_, rfl, M, ?_⟩
  simp only [Act.put, List.setIfInBounds_toArray, List.set_cons_zero, List.set_cons_succ]
  refine C_nil ?_
  intro _
  refine S_seg 7 10 (by kernel_rfl) (by decide) ?_
  simp only [List.take_succ_cons, List.take_zero, List.drop_zero, List.drop_succ_cons, Nat.sub_zero, Nat.reduceSub]
  go_wp2_with ((with_reducible apply W_stC (b := c) (o := 1) (v := V1)); rfl; rfl; exact HV1.out.one; exact M.r1; exact size109; exact hsz; intro w8 K hr8)
  refine S_done ?_
  go_wp2_with fail
  go_end0
  exact ⟨_, V1, rfl, M.kept.trans K, hr8, HV1.out.keptC K M.r1 htc⟩
end Go.Proofs.YgcsalGreat

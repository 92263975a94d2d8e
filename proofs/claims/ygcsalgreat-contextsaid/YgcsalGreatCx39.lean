/-
  x
-/
import Derived.Test.YgcsalGreatCx37
import Derived.Test.YgcsalGreatCx38
import Derived.Test.YgcsalGreatCx32
import Derived.Test.YgcsalGreatKc9
set_option linter.unusedSimpArgs false
set_option linter.unusedVariables false
namespace Go.Own
open Go.Proofs Go.Proofs.YgcsalGreat
/-- A code: nothing, or a row of bytes. -/
def CodeV (w : World) (x : Value) (ds : List Nat) : Prop := (x = nilS ∧ ds = []) ∨ (RowV w 5 x (ds.map n8) ∧ 0 < ds.length ∧ ds.length ≤ 256 ∧ Small ds)
theorem CodeV.kept {w w' : World} {x : Value} {ds : List Nat} (h : CodeV w x ds) (k : Kept [] w w') : CodeV w' x ds := by
  rcases h with h | ⟨h1, h2⟩
  · exact .inl h
  · exact .inr ⟨h1.kept k, h2⟩
theorem CodeV.keptC {w w' : World} {c tc : Nat} {x : Value} {ds : List Nat} {cs : Array Value} (h : CodeV w x ds) (k : Kept [c] w w') (hr : w.heap[c]? = some (.cells cs tc (0, 0))) (ht : tc ≠ 5) : CodeV w' x ds := by
  rcases h with h | ⟨h1, h2⟩
  · exact .inl h
  · exact .inr ⟨h1.keptC k hr ht, h2⟩
theorem CodeV.slice {w : World} {x : Value} {ds : List Nat} (h : CodeV w x ds) : ∃ g cap, x = .slice g ds.length cap := by
  rcases h with ⟨h1, h2⟩ | ⟨h1, h2⟩
  · subst h1 h2
    exact ⟨_, _, rfl⟩
  · obtain ⟨g, cap, cur, e, _⟩ := h1.pos (by simpa using h2.1)
    rw [List.length_map] at e
    exact ⟨_, _, e⟩
theorem CodeV.one {w : World} {x : Value} {ds : List Nat} (h : CodeV w x ds) : x.oneCell' = true := by
  obtain ⟨g, cap, rfl⟩ := h.slice
  rfl
theorem CodeV.len {w : World} {x : Value} {ds : List Nat} (h : CodeV w x ds) : ds.length ≤ 256 := by
  rcases h with ⟨h1, h2⟩ | ⟨h1, h2⟩
  · subst h2; simp
  · exact h2.2.1
theorem CodeV.copy {w : World} {x : Value} {ds : List Nat} (h : CodeV w x ds) : Calls Salg.prog 23 #[x] w fun e w' => ∃ u, e = .returned u ∧ NatV w' u ds ∧ Kept [] w w' := by
  rcases h with ⟨h1, h2⟩ | ⟨h1, h2⟩
  · subst h1 h2
    refine (copyBytes_nil w).mono ?_
    rintro e w' ⟨rfl, rfl⟩
    exact ⟨_, rfl, NatV.nil _, Kept.refl _ _⟩
  · exact copyBytes_row x ds w h1 h2.1 (by omega) h2.2.2
def txG (t : Nat) (crt : Bool) (v : Nat) (dv : Value) : List Value := (ad 240).map n8 ++ ((ad t).map n8 ++ ([.bool crt, n64 0, n64 200000] ++ (z8 32 ++ ((padN v).map n8 ++ ([dv, .bool false] ++ (z8 64 ++ [nilS]))))))
theorem txG_V (t v : Nat) : txG t false v nilS = txV t v := rfl
theorem txG_C (v pb cd : Nat) : txG 1 true v (.slice (some ⟨pb, 0, none⟩) 19 cd) = txC v pb cd := rfl
theorem txG_L : txL = txG 1 false 0 nilS := by kernel_rfl
/-- contextWay's answer. -/
def rwL (cs : Value) (t : Nat) (crt : Bool) (v : Nat) (dv : Value) (sf cl : List Nat) (vl dp : Nat) (st : Bool) : List Value := [cs] ++ (txG t crt v dv ++ (sf.map n8 ++ (cl.map n8 ++ [n8 vl, n8 dp, .bool st])))
def rwZ : List Value := [nilS] ++ (z8 40 ++ [.bool false, n64 0, n64 0] ++ z8 64 ++ [nilS, .bool false] ++ z8 64 ++ [nilS] ++ (z8 40 ++ [n8 0, n8 0, .bool false]))
theorem zero69 : ((Salg.prog.info? 69).bind (·.zero)) = some (.agg rwZ.toArray) := by kernel_rfl
theorem size69N : (Salg.prog.info? 69).map (·.size) = some 218 := by kernel_rfl
theorem size69 (cs : Value) (t : Nat) (crt : Bool) (v : Nat) (dv : Value) (sf cl : List Nat) (vl dp : Nat) (st : Bool) (h1 : sf.length = 20) (h2 : cl.length = 20) : (Salg.prog.info? 69).map (·.size) = some (rwL cs t crt v dv sf cl vl dp st).toArray.size := by
  have e : (rwL cs t crt v dv sf cl vl dp st).toArray.size = 1 + (174 + (sf.length + (cl.length + 3))) := by
    simp only [rwL, List.size_toArray, List.length_append, List.length_map, List.length_cons, List.length_nil]
    rw [show (txG t crt v dv).length = 174 from rfl]
  rw [e, h1, h2]
  exact size69N
theorem size69Z : (Salg.prog.info? 69).map (·.size) = some rwZ.toArray.size := by kernel_rfl
theorem n8_onesL (l : List Nat) : ∀ u ∈ l.map n8, u.oneCell' = true := by
  intro u hu
  rw [List.mem_map] at hu
  obtain ⟨x, _, rfl⟩ := hu
  rfl
theorem rwL_one (cs : Value) (t : Nat) (crt : Bool) (v : Nat) (dv : Value) (sf cl : List Nat) (vl dp : Nat) (st : Bool) (h1 : cs.oneCell' = true) (h2 : dv.oneCell' = true) : ∀ u ∈ (rwL cs t crt v dv sf cl vl dp st), u.oneCell' = true := by
  intro u hu
  simp only [rwL, txG, z8, List.mem_append, List.mem_cons, List.not_mem_nil, or_false] at hu
  have hz : ∀ n, u ∈ List.replicate n (n8 0) → u.oneCell' = true := fun n h => by rw [List.eq_of_mem_replicate h]; rfl
  rcases hu with rfl | (hu | hu | (rfl | rfl | rfl) | hu | hu | (rfl | rfl) | hu | rfl) | hu | hu | rfl | rfl | rfl
  · exact h1
  · exact n8_onesL _ _ hu
  · exact n8_onesL _ _ hu
  · rfl
  · rfl
  · rfl
  · exact hz _ hu
  · exact n8_onesL _ _ hu
  · exact h2
  · rfl
  · exact hz _ hu
  · rfl
  · exact n8_onesL _ _ hu
  · exact n8_onesL _ _ hu
  · rfl
  · rfl
  · rfl
theorem code_own {w : World} {b n : Nat} {x : Value} {ds : List Nat} (h : w.ownsRow b 5 1 x n (ds.map n8)) (h0 : 0 < ds.length) (h1 : ds.length ≤ 256) (hs : Small ds) : CodeV w x ds := .inr ⟨RowV.own h, h0, h1, hs⟩
theorem small_fwdC {v t : Nat} (hv : v < 256) (ht : t < 256) : Small (fwdC v t) := by
  intro x hx
  simp [fwdC] at hx
  omega
theorem small_fwdO {t o : Nat} (ht : t < 256) (ho : o < 256) : Small (fwdO t o) := by
  intro x hx
  simp [fwdO] at hx
  omega
theorem code_probe {w : World} {pb : Nat} (h : w.heap[pb]? = some (R8 5 probeL)) : CodeV w (.slice (some ⟨pb, 0, none⟩) 19 19) probeL := code_own (b := 0) (n := 19) (own_lit h rfl (by decide) (Nat.zero_le _)) (by decide) (by decide) small_probe
/-- Two codes. -/
def Codes2 (w : World) (cs : Value) (d1 d2 : List Nat) : Prop := ∃ b x1 x2, cs = .slice (some ⟨b, 0, none⟩) 2 2 ∧ w.heap[b]? = some (.cells #[x1, x2] 40 (0, 0)) ∧ CodeV w x1 d1 ∧ CodeV w x2 d2
def Codes3 (w : World) (cs : Value) (d1 d2 d3 : List Nat) : Prop := ∃ b cap cur x1 x2 x3, cs = .slice (some ⟨b, 0, none⟩) 3 cap ∧ w.heap[b]? = some (.cells cur 40 (0, 0)) ∧ cur[0]? = some x1 ∧ cur[1]? = some x2 ∧ cur[2]? = some x3 ∧ CodeV w x1 d1 ∧ CodeV w x2 d2 ∧ CodeV w x3 d3
end Go.Own
namespace Go.Proofs.YgcsalGreat
open Go.RowKit Go.Own
theorem stage_2 (cs : Value) (d1 d2 : List Nat) (w : World) (h : Codes2 w cs d1 d2) : Calls Salg.prog 14 #[cs] w fun e w' => ∃ r u1 u2, e = .returned r ∧ OasV w' r [oaN 1 u1, oaN 2 u2, oaB] ∧ NatV w' u1 d1 ∧ NatV w' u2 d2 ∧ Kept [] w w' := by
  obtain ⟨b, x1, x2, rfl, hb, h1, h2⟩ := h
  have l1 := h1.len
  have l2 := h2.len
  have c1 := fun w' (K : Kept [] w w') => (h1.kept K).copy
  have c2 := fun w' (K : Kept [] w w') => (h2.kept K).copy
  obtain ⟨g1, cap1, rfl⟩ := h1.slice
  obtain ⟨g2, cap2, rfl⟩ := h2.slice
  exact stage_gen b g1 g2 _ _ cap1 cap2 d1 d2 w hb c1 c2 rfl rfl l1 l2
theorem stage_3c (cs : Value) (d1 d2 d3 : List Nat) (w : World) (h : Codes3 w cs d1 d2 d3) : Calls Salg.prog 14 #[cs] w fun e w' => ∃ r u1 u2 u3, e = .returned r ∧ OasV w' r [oaN 1 u1, oaN 2 u2, oaN 3 u3, oaB] ∧ NatV w' u1 d1 ∧ NatV w' u2 d2 ∧ NatV w' u3 d3 ∧ Kept [] w w' := by
  obtain ⟨b, cap, cur, x1, x2, x3, rfl, hb, e1, e2, e3, h1, h2, h3⟩ := h
  have l1 := h1.len
  have l2 := h2.len
  have l3 := h3.len
  have c1 := fun w' (K : Kept [] w w') => (h1.kept K).copy
  have c2 := fun w' (K : Kept [] w w') => (h2.kept K).copy
  have c3 := fun w' (K : Kept [] w w') => (h3.kept K).copy
  obtain ⟨g1, cap1, rfl⟩ := h1.slice
  obtain ⟨g2, cap2, rfl⟩ := h2.slice
  obtain ⟨g3, cap3, rfl⟩ := h3.slice
  exact stage_3 b cap cur g1 g2 g3 _ _ _ cap1 cap2 cap3 d1 d2 d3 w hb e1 e2 e3 c1 c2 c3 rfl l1 rfl l2 rfl l3
theorem fwdC_code (t v : Nat) (w : World) (ht : t < 256) (hv : v < 256) : Calls Salg.prog 107 #[.int .u8 241, n8 t, n8 v] w fun e w' => ∃ u, e = .returned u ∧ CodeV w' u (fwdC v t) ∧ Kept [] w w' := by
  refine (forwarder_C t v w).mono ?_
  rintro e w' ⟨u, rfl, h, K⟩
  exact ⟨u, rfl, code_own h (by simp [fwdC]) (by simp [fwdC]) (small_fwdC hv ht), K⟩
theorem fwdO_code (t o : Nat) (w : World) (ht : t < 256) (ho : o < 256) (hn : o ≠ 241) : Calls Salg.prog 107 #[n8 o, n8 t, n8 0] w fun e w' => ∃ u, e = .returned u ∧ CodeV w' u (fwdO t o) ∧ Kept [] w w' := by
  refine (forwarder_O t o w hn).mono ?_
  rintro e w' ⟨u, rfl, h, K⟩
  exact ⟨u, rfl, code_own h (by simp [fwdO]) (by simp [fwdO]) (small_fwdO ht ho), K⟩

set_option maxHeartbeats 4000000 in
set_option maxRecDepth 100000 in
theorem probe_lit (w : World) : Calls Salg.prog 106 #[] w fun e w' => ∃ pb, e = .returned (.slice (some ⟨pb, 0, none⟩) 19 19) ∧ w'.heap[pb]? = some (R8 5 probeL) ∧ w.heap.size ≤ pb ∧ Kept [] w w' := by
  have M := Mem.start w []
  go_enter Salg.func106, Salg.ntmps106
  go_wp2_with ((with_reducible apply W_buildN (vs := #[n8 48, n8 95, n8 82, n8 51, n8 96, n8 32, n8 82, n8 52, n8 96, n8 64, n8 82, n8 50, n8 96, n8 96, n8 82, n8 96, n8 128, n8 95, n8 243]) (e := 5) M); kernel_rfl; clear M; intro bn w2 hbn hbn2 KB M; clear KB hbn2; simp only [Act.put, List.setIfInBounds_toArray, List.set_cons_zero, List.set_cons_succ])
  go_ret
  exact ⟨_, rfl, M.r0, hbn, M.kept⟩
end Go.Proofs.YgcsalGreat

/-
  The walks of (*yp.World).setNonce, (*yp.World).setBalance.
-/
import Derived.Test.YgcsalGreatMv7
set_option linter.unusedSimpArgs false
set_option linter.unusedVariables false
namespace Go.Own
def Ac.put (q : Ac) (k : Nat) (v : Value) : Ac := ⟨q.adr, q.rest.set k v⟩
theorem Ac.Ok.put {q : Ac} (h : q.Ok) (k : Nat) {v : Value} (hv : v.oneCell' = true) : (q.put k v).Ok :=
  ⟨h.ha, by simp [Ac.put, h.hr], fun u hu => by
    rcases List.mem_or_eq_of_mem_set hu with h' | rfl
    · exact h.h1 u h'
    · exact hv, h.hs⟩
theorem put_cells {q : Ac} (h : q.Ok) {k : Nat} (hk : k < 4) (v : Value) : q.cells.toArray.setIfInBounds (20 + k) v = (q.put k v).cells.toArray := by
  simp only [Ac.cells, Ac.put, List.setIfInBounds_toArray]
  rw [List.set_append_right _ _ (by simp [h.ha])]
  simp [h.ha]
theorem NumV.one {w : World} {v : Value} {n : Nat} (h : NumV w v n) : v.oneCell' = true := by
  obtain ⟨ds, ⟨p, c, rfl, _⟩, _⟩ := h
  rfl
theorem acFind_ok {l : List Ac} {a : List Nat} (h : ∀ p ∈ l, p.Ok) (ha : a.length = 20) (hs : Small a) : (acFind l a).Ok := by
  unfold acFind
  cases hf : l.find? (fun p => p.adr == a) with
  | none => exact ⟨ha, rfl, by intro u hu; simp at hu; subst hu; rfl, hs⟩
  | some p => exact h p (List.mem_of_find?_eq_some hf)
end Go.Own
namespace Go.Proofs.YgcsalGreat
open Go.RowKit Go.Own
theorem size89 : (Salg.prog.info? 89).map (·.size) = some 1 := by kernel_rfl

set_option maxHeartbeats 2000000 in
set_option maxRecDepth 100000 in
theorem setNonce_any (c tc : Nat) (cs : Array Value) (va nn : Value) (N : Nat) (l : List Ac) (a : List Nat) (w : World) (hr : w.heap[c]? = some (.cells cs tc (0, 0))) (h0 : cs[0]? = some va) (hv : AcsV w va l) (ha : a.length = 20) (hsa : Small a) (hN : NumV w nn N) (hN0 : N ≠ 0) (hll : l.length ≤ 400) (htc : tc ≠ 128) :
    Calls Salg.prog 91 #[.pointer (some ⟨c, 0, none⟩), A8 a, nn] w fun e w' => ∃ r v', e = .returned r ∧ Kept [c] w w' ∧ w'.heap[c]? = some (.cells (cs.setIfInBounds 0 v') tc (0, 0)) ∧ AcsV w' v' (acPut ((acFind l a).put 0 nn) false l) := by
  have M := Mem.start w []
  have hq := acFind_ok hv.ok ha hsa
  have HQ := hid hq
  have hql := hq.len
  have HP := hid (hq.put 0 hN.one)
  have hpl := HP.out.len
  have HPC : Hid ((acFind l a).cells.toArray.setIfInBounds 20 nn = ((acFind l a).put 0 nn).cells.toArray) := put_cells hq (k := 0) (by decide) nn
  have HAC := hid (fun w' (K : Kept [] w w') => account_any c tc cs va l a w' (K.row hr (by simp)) h0 (hv.kept K) ha)
  have HPUT := hid (fun w' (K : Kept [] w w') => put_any c tc cs va nn N l ((acFind l a).put 0 nn) w' (K.row hr (by simp)) h0 (hv.kept K) HP.out (by have := HQ.out.hr; simp [Ac.put, List.getElem?_set, this]) (hN.kept K) hN0 hll htc)
  have h1 := hN.one
  clear hq hv hN
  generalize hF : acFind l a = F at *
  clear hF
  generalize F.put 0 nn = G at *
  go_enter Salg.func91, Salg.ntmps91
  go_wp2_with (first
    | ((with_reducible apply L_box (d := 4) M); rfl; clear M; intro c1 w1 hc1 M; simp only [Act.put, List.setIfInBounds_toArray, List.set_cons_zero, List.set_cons_succ])
    | ((with_reducible apply W_loadAll); rfl; (first | with_reducible exact M.r0 | with_reducible exact M.r1 | with_reducible exact M.r2 | with_reducible exact M.r3 | with_reducible exact M.r4 | with_reducible exact M.r5 | with_reducible exact M.r6 | assumption | exact M.kept.row (by assumption) (by simp)); exact Salg.underlying45; rfl; (first | with_reducible exact size45 | (rw [size45]; simp [ha])); simp only [Act.put, List.setIfInBounds_toArray, List.set_cons_zero, List.set_cons_succ]))
  refine (HAC.out _ M.kept).mono ?_
  rintro e w2 ⟨rfl, K⟩
  replace M := M.call K
  clear K HAC
  go_wp2_with (first
    | ((with_reducible apply L_allocA (d := 6) M); exact zero128; clear M; intro c2 w1 hc2 M; simp only [Act.put, List.setIfInBounds_toArray, List.set_cons_zero, List.set_cons_succ])
    | ((with_reducible apply W_storeK (b := c2) (vs := F.cells.toArray)); rfl; rfl; exact M.r0; exact size128; (simp [hql, z8]); (simpa using HQ.out.one); intro w3 K hr3; replace M := Mem.callPut (L1 := []) M (Or.inr (by assumption)) K hr3; clear K hr3; simp only [List.cons_append, List.nil_append] at M)
    | ((with_reducible apply W_stV (b := c2) (o := 20) (v := nn)); rfl; rfl; exact h1; exact M.r0; exact size89; (simp [hql]); intro w4 K hr4; rw [HPC.out] at hr4; replace M := Mem.callPut (L1 := []) M (Or.inr (by assumption)) K hr4; clear K hr4; simp only [List.cons_append, List.nil_append] at M)
    | ((with_reducible apply W_loadAll); rfl; exact M.r0; exact Salg.underlying128; rfl; (rw [size128]; simp [hpl]); simp only [Act.put, List.setIfInBounds_toArray, List.set_cons_zero, List.set_cons_succ]))
  refine (HPUT.out _ M.kept).mono ?_
  rintro e w5 ⟨r, v', rfl, K, hr5, hav⟩
  go_wp2_with fail
  go_end0
  exact ⟨_, v', rfl, (M.kept.mono (by simp)).trans K, hr5, hav⟩

set_option maxHeartbeats 2000000 in
set_option maxRecDepth 100000 in
theorem setBalance_any (c tc : Nat) (cs : Array Value) (va nn : Value) (N : Nat) (l : List Ac) (a : List Nat) (w : World) (hr : w.heap[c]? = some (.cells cs tc (0, 0))) (h0 : cs[0]? = some va) (hv : AcsV w va l) (ha : a.length = 20) (hsa : Small a) (hN : NumV w nn N) (nv : Value) (NN : Nat) (hnv : (acFind l a).rest[0]? = some nv) (hNN : NumV w nv NN) (hN0 : NN ≠ 0) (hll : l.length ≤ 400) (htc : tc ≠ 128) :
    Calls Salg.prog 92 #[.pointer (some ⟨c, 0, none⟩), A8 a, nn] w fun e w' => ∃ r v', e = .returned r ∧ Kept [c] w w' ∧ w'.heap[c]? = some (.cells (cs.setIfInBounds 0 v') tc (0, 0)) ∧ AcsV w' v' (acPut ((acFind l a).put 1 nn) false l) := by
  have M := Mem.start w []
  have hq := acFind_ok hv.ok ha hsa
  have HQ := hid hq
  have hql := hq.len
  have HP := hid (hq.put 1 hN.one)
  have hpl := HP.out.len
  have HPC : Hid ((acFind l a).cells.toArray.setIfInBounds 21 nn = ((acFind l a).put 1 nn).cells.toArray) := put_cells hq (k := 1) (by decide) nn
  have HAC := hid (fun w' (K : Kept [] w w') => account_any c tc cs va l a w' (K.row hr (by simp)) h0 (hv.kept K) ha)
  have HPUT := hid (fun w' (K : Kept [] w w') => put_any c tc cs va nv NN l ((acFind l a).put 1 nn) w' (K.row hr (by simp)) h0 (hv.kept K) HP.out (by simpa [Ac.put] using hnv) (hNN.kept K) hN0 hll htc)
  have h1 := hN.one
  clear hq hv hN
  generalize hF : acFind l a = F at *
  clear hF
  generalize F.put 1 nn = G at *
  go_enter Salg.func92, Salg.ntmps92
  go_wp2_with (first
    | ((with_reducible apply L_box (d := 4) M); rfl; clear M; intro c1 w1 hc1 M; simp only [Act.put, List.setIfInBounds_toArray, List.set_cons_zero, List.set_cons_succ])
    | ((with_reducible apply W_loadAll); rfl; (first | with_reducible exact M.r0 | with_reducible exact M.r1 | with_reducible exact M.r2 | with_reducible exact M.r3 | with_reducible exact M.r4 | with_reducible exact M.r5 | with_reducible exact M.r6 | assumption | exact M.kept.row (by assumption) (by simp)); exact Salg.underlying45; rfl; (first | with_reducible exact size45 | (rw [size45]; simp [ha])); simp only [Act.put, List.setIfInBounds_toArray, List.set_cons_zero, List.set_cons_succ]))
  refine (HAC.out _ M.kept).mono ?_
  rintro e w2 ⟨rfl, K⟩
  replace M := M.call K
  clear K HAC
  go_wp2_with (first
    | ((with_reducible apply L_allocA (d := 6) M); exact zero128; clear M; intro c2 w1 hc2 M; simp only [Act.put, List.setIfInBounds_toArray, List.set_cons_zero, List.set_cons_succ])
    | ((with_reducible apply W_storeK (b := c2) (vs := F.cells.toArray)); rfl; rfl; exact M.r0; exact size128; (simp [hql, z8]); (simpa using HQ.out.one); intro w3 K hr3; replace M := Mem.callPut (L1 := []) M (Or.inr (by assumption)) K hr3; clear K hr3; simp only [List.cons_append, List.nil_append] at M)
    | ((with_reducible apply W_stV (b := c2) (o := 21) (v := nn)); rfl; rfl; exact h1; exact M.r0; exact size89; (simp [hql]); intro w4 K hr4; rw [HPC.out] at hr4; replace M := Mem.callPut (L1 := []) M (Or.inr (by assumption)) K hr4; clear K hr4; simp only [List.cons_append, List.nil_append] at M)
    | ((with_reducible apply W_loadAll); rfl; exact M.r0; exact Salg.underlying128; rfl; (rw [size128]; simp [hpl]); simp only [Act.put, List.setIfInBounds_toArray, List.set_cons_zero, List.set_cons_succ]))
  refine (HPUT.out _ M.kept).mono ?_
  rintro e w5 ⟨r, v', rfl, K, hr5, hav⟩
  go_wp2_with fail
  go_end0
  exact ⟨_, v', rfl, (M.kept.mono (by simp)).trans K, hr5, hav⟩
end Go.Proofs.YgcsalGreat

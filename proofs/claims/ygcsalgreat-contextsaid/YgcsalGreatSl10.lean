/-
  The walks of yp.addrsOf (all of it) and (*yp.World).clone on three accounts.
-/
import Derived.Test.YgcsalGreatSl9
set_option linter.unusedSimpArgs false
set_option linter.unusedVariables false
namespace Go.Own
def wrow4 (a0 a1 a2 a3 : Value) : List Value := [a0, a1, a2, a3, nilS, nilS, nilS, nilS]
theorem wrow4_size (a0 a1 a2 a3 : Value) : (wrow4 a0 a1 a2 a3).toArray.size = 8 := by kernel_rfl
theorem wrow4_s0 (a0 a1 a2 a3 v : Value) : (wrow4 a0 a1 a2 a3).toArray.setIfInBounds 0 v = (wrow4 v a1 a2 a3).toArray := by kernel_rfl
theorem wrow4_s1 (a0 a1 a2 a3 v : Value) : (wrow4 a0 a1 a2 a3).toArray.setIfInBounds 1 v = (wrow4 a0 v a2 a3).toArray := by kernel_rfl
theorem wrow4_s2 (a0 a1 a2 a3 v : Value) : (wrow4 a0 a1 a2 a3).toArray.setIfInBounds 2 v = (wrow4 a0 a1 v a3).toArray := by kernel_rfl
theorem wrow4_s6 (a0 a1 a2 a3 : Value) : (wrow4 a0 a1 a2 a3).toArray.setIfInBounds 6 nilS = (wrow4 a0 a1 a2 a3).toArray := by kernel_rfl
theorem wrow4_s7 (a0 a1 a2 a3 : Value) : (wrow4 a0 a1 a2 a3).toArray.setIfInBounds 7 nilS = (wrow4 a0 a1 a2 a3).toArray := by kernel_rfl
theorem wrow4_0 (a0 a1 a2 a3 : Value) : (wrow4 a0 a1 a2 a3).toArray[0]? = some a0 := by kernel_rfl
theorem wrow4_2 (a0 a1 a2 a3 : Value) : (wrow4 a0 a1 a2 a3).toArray[2]? = some a2 := by kernel_rfl
theorem wrow4_nb (a0 a1 a2 a3 : Value) : ∀ t l, Obj.cells (wrow4 a0 a1 a2 a3).toArray 113 (0, 0) ≠ R8 t l := not_bytes_at (i := 4) (p := none) (n := 0) (m := 0) (by kernel_rfl)
theorem wrow4_one {a0 a1 a2 a3 : Value} (h0 : a0.oneCell' = true) (h1 : a1.oneCell' = true) (h2 : a2.oneCell' = true) (h3 : a3.oneCell' = true) : ∀ u ∈ (wrow4 a0 a1 a2 a3).toArray.toList, u.oneCell' = true := by
  apply oneL
  have e : ((wrow4 a0 a1 a2 a3).all fun u => u.oneCell') = (a0.oneCell' && (a1.oneCell' && (a2.oneCell' && (a3.oneCell' && true)))) := by kernel_rfl
  rw [e, h0, h1, h2, h3]
  rfl
theorem own_rowS {w : World} {b n s : Nat} {e : TypeId} {vs : Array Value} (h : w.heap[b]? = some (.cells vs e (0, 0))) (hs : vs.size = n * s) (hn : n ≤ 1000000) : w.ownsRow 0 e s (.slice (some ⟨b, 0, none⟩) n n) n vs.toList :=
  ⟨by simp [hs], .inr ⟨b, n, vs, rfl, Nat.zero_le _, h, Nat.le_refl _, by simp only [maxLen]; omega, hs, List.take_of_length_le (by simp [hs])⟩⟩
theorem AcsV.three {w : World} {v nv bv cu sl nv2 bv2 cu2 nv3 bv3 : Value} (h : AcsV w v (l3 nv bv cu sl nv2 bv2 cu2 nv3 bv3)) : ∃ g cap cur, v = .slice (some ⟨g, 0, none⟩) 3 cap ∧ w.heap[g]? = some (.cells cur 128 (0, 0)) ∧ 72 ≤ cur.size ∧ cur.extract 0 (0 + 24) = (acN 1 nv bv cu sl).cells.toArray ∧ cur.extract 24 (24 + 24) = (acN 2 nv2 bv2 cu2 nilS).cells.toArray ∧ cur.extract 48 (48 + 24) = (acN 240 nv3 bv3 nilS nilS).cells.toArray := by
  obtain ⟨g, cap, cur, e1, e2, e3, e4⟩ := h.at (i := 0) (by simp [l3])
  obtain ⟨g', cap', cur', e1', e2', e3', e4'⟩ := h.at (i := 1) (by simp [l3])
  obtain ⟨g2, cap2, cur2, f1, f2, f3, f4⟩ := h.at (i := 2) (by simp [l3])
  subst e1
  cases e1'
  cases f1
  rw [e2] at e2' f2
  cases e2'
  cases f2
  exact ⟨g, cap, cur, rfl, e2, by omega, e4, e4', f4⟩
end Go.Own
namespace Go.Proofs.YgcsalGreat
open Go.RowKit Go.Own
theorem zero113' : ((Salg.prog.info? 113).bind (·.zero)) = some (.agg (wrow4 nilS nilS nilS nilS).toArray) := by kernel_rfl
set_option maxHeartbeats 4000000 in
set_option maxRecDepth 100000 in
theorem addrsOf_all (v : Value) (l : List (List Nat)) (w : World) (hv : AdsV w v l) (h0 : 0 < l.length) (hl : l.length ≤ 20) : Calls Salg.prog 211 #[v] w fun e w' => ∃ u, e = .returned u ∧ AdsV w' u l ∧ Kept [] w w' := by
  have M := Mem.start w []
  obtain ⟨g, cap, cur, rfl, hg, hc, hx⟩ : ∃ g cap cur, v = .slice (some ⟨g, 0, none⟩) l.length cap ∧ w.heap[g]? = some (.cells cur 45 (0, 0)) ∧ l.length * 20 ≤ cur.size ∧ cur.toList.take (l.length * 20) = adsL l := by
    rcases hv.own.2 with ⟨_, h1⟩ | ⟨g, cap, cur, h1, h2, h3, h4, h5, h6, h7⟩
    · omega
    · exact ⟨g, cap, cur, h1, h3, by rw [h6]; exact Nat.mul_le_mul_right 20 h4, h7⟩
  have hll : (adsL l).length = l.length * 20 := by rw [← hx]; simp; omega
  have HX : Hid (∀ (j : Nat) (u : Value), (adsL l)[j]? = some u → cur[0 + j]? = some u) := by
    intro j u hj
    have hlt := (List.getElem?_eq_some_iff.1 hj).1
    rw [← hx, List.getElem?_take_of_lt (by omega)] at hj
    rw [Nat.zero_add]
    simpa using hj
  have HON : Hid (∀ v ∈ adsL l, v.oneCell' = true) := by
    intro v hv
    simp only [adsL, List.mem_flatMap, List.mem_map] at hv
    obtain ⟨_, _, x, _, rfl⟩ := hv
    rfl
  have HOK := hid hv.ok
  have HLL := hid hll
  have HL1 := hid hl
  obtain ⟨n, hn⟩ : ∃ n, n = l.length := ⟨_, rfl⟩
  have HNL := hid hn
  rw [← hn] at hll hl h0 ⊢
  clear hn
  have HLE : Hid ((adsL l).length = min n n * 20) := by show _ = _; rw [hll]; simp
  have HFI : Hid (0 + (adsL l).length ≤ ((Array.range (n * 20)).map (fun x => (A8 (List.replicate 20 0)).cells[x % 20]!)).size) := by show _ ≤ _; rw [hll]; simp
  clear hx hv hll hc
  go_enter Salg.func211, Salg.ntmps211
  go_wp2_with (first
    | ((with_reducible apply L_run); rfl; exact run_isnil rfl rfl Salg.underlying109 guard109; (try simp only [Option.isNone_none, Option.isNone_some]); simp only [Act.put, List.setIfInBounds_toArray, List.set_cons_zero, List.set_cons_succ])
    | ((with_reducible apply W_makeV (n := n) (s := 20) (z := A8 (List.replicate 20 0)) M); rfl; rfl; rfl; rfl; omega; exact Salg.underlying109; exact info45; rfl; decide; decide; decide; rfl; clear M; intro b1 w2 hb1 hb2 KB M; clear KB hb2; simp only [Act.put, List.setIfInBounds_toArray, List.set_cons_zero, List.set_cons_succ])
    | ((with_reducible apply W_copyS (b := b1) (o := 0) (b' := g) (so := 0) (s := 20) (news := adsL l) (t := 45)); rfl; rfl; exact Salg.underlying109; exact size45; exact M.r0; exact M.kept.row hg (by simp); exact HLE.out; exact HX.out; exact HFI.out; exact HON.out; intro w4 K hr4; replace M := Mem.callPut (L1 := []) M (Or.inr hb1) K hr4; clear K hr4; simp only [Act.put, List.setIfInBounds_toArray, List.set_cons_zero, List.set_cons_succ]))
  go_ret
  refine ⟨_, rfl, ?_, M.kept⟩
  have hrow := M.r0
  have e : (((Array.range (n * 20)).map (fun x => (A8 (List.replicate 20 0)).cells[x % 20]!)).toList.take 0 ++ adsL l ++ ((Array.range (n * 20)).map (fun x => (A8 (List.replicate 20 0)).cells[x % 20]!)).toList.drop (0 + (adsL l).length)) = adsL l := by
    rw [HLL.out, ← HNL.out]
    simp
  rw [e] at hrow
  have h := own_rowS (n := n) (s := 20) hrow (by rw [List.size_toArray, HLL.out, ← HNL.out]) (by have := HL1.out; rw [← HNL.out] at this; omega)
  rw [HNL.out] at h ⊢
  exact ⟨h, HOK.out, by have := HL1.out; omega⟩

end Go.Proofs.YgcsalGreat

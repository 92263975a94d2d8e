/-
  The frame of a running program; the walks of (*yp.Chain).Step and law.stepped.
-/
import Derived.Test.YgcsalGreatMv22
import Derived.Test.YgcsalGreatMv23
import Derived.Test.YgcsalGreatMv24
set_option linter.unusedSimpArgs false
set_option linter.unusedVariables false
namespace Go.Own
def NumsV (w : World) (xs : List Value) (ns : List Nat) : Prop := xs.length = ns.length ∧ ∀ (k : Nat) (v : Value) (n : Nat), xs[k]? = some v → ns[k]? = some n → NumV w v n
theorem Kept.trans' {w w1 w2 w3 : World} {X : List Nat} (h1 : Kept [] w w1) (h2 : Kept X w1 w2) (h3 : Kept [] w2 w3) : Kept X w w3 := ((h1.mono (by simp)).trans h2).trans (h3.mono (by simp))
theorem NumsV.kept {w w' : World} {xs : List Value} {ns : List Nat} (h : NumsV w xs ns) (k : Kept [] w w') : NumsV w' xs ns := ⟨h.1, fun i v n h1 h2 => (h.2 i v n h1 h2).kept k⟩
theorem NumsV.one {w : World} {xs : List Value} {ns : List Nat} (h : NumsV w xs ns) : ∀ u ∈ xs, u.oneCell' = true := by
  intro u hu
  obtain ⟨i, hi, he⟩ := List.mem_iff_getElem.1 hu
  exact (h.2 i u _ (by rw [List.getElem?_eq_getElem hi, he]) (List.getElem?_eq_getElem (h.1 ▸ hi))).one
theorem NumsV.keptC {w w' : World} {xs : List Value} {ns : List Nat} {c tc : Nat} {cs : Array Value} (h : NumsV w xs ns) (k : Kept [c] w w') (hr : w.heap[c]? = some (.cells cs tc (0, 0))) (ho : ∀ t l, Obj.cells cs tc (0, 0) ≠ R8 t l) : NumsV w' xs ns := ⟨h.1, fun i v n h1 h2 => (h.2 i v n h1 h2).keptC k hr ho⟩
theorem NumsV.push {w : World} {xs : List Value} {ns : List Nat} {u : Value} {n : Nat} (h : NumsV w xs ns) (hu : NumV w u n) : NumsV w (xs ++ [u]) (ns ++ [n]) := by
  refine ⟨by simp [h.1], fun k v m h1 h2 => ?_⟩
  rcases Nat.lt_or_ge k xs.length with hk | hk
  · rw [List.getElem?_append_left hk] at h1
    rw [List.getElem?_append_left (h.1 ▸ hk)] at h2
    exact h.2 k v m h1 h2
  · rw [List.getElem?_append_right hk] at h1
    rw [List.getElem?_append_right (h.1 ▸ hk), ← h.1] at h2
    obtain ⟨h3, h4⟩ := List.getElem?_eq_some_iff.1 h1
    have h0 : k - xs.length = 0 := by simpa using h3
    rw [h0] at h1 h2
    simp at h1 h2
    subst h1 h2
    exact hu
theorem NumsV.take {w : World} {xs : List Value} {ns : List Nat} (h : NumsV w xs ns) (j : Nat) : NumsV w (xs.take j) (ns.take j) := by
  refine ⟨by simp [h.1], fun k v m h1 h2 => ?_⟩
  rcases Nat.lt_or_ge k j with hk | hk
  · rw [List.getElem?_take_of_lt hk] at h1 h2
    exact h.2 k v m h1 h2
  · rw [List.getElem?_take_eq_none hk] at h1
    cases h1
theorem NumsV.drop {w : World} {xs : List Value} {ns : List Nat} (h : NumsV w xs ns) (j : Nat) : NumsV w (xs.drop j) (ns.drop j) := by
  refine ⟨by simp [h.1], fun k v m h1 h2 => ?_⟩
  rw [List.getElem?_drop] at h1 h2
  exact h.2 _ v m h1 h2
theorem NumsV.app {w : World} {xs ys : List Value} {ns ms : List Nat} (h : NumsV w xs ns) (g : NumsV w ys ms) : NumsV w (xs ++ ys) (ns ++ ms) := by
  refine ⟨by simp [h.1, g.1], fun k v m h1 h2 => ?_⟩
  rcases Nat.lt_or_ge k xs.length with hk | hk
  · rw [List.getElem?_append_left hk] at h1
    rw [List.getElem?_append_left (h.1 ▸ hk)] at h2
    exact h.2 k v m h1 h2
  · rw [List.getElem?_append_right hk] at h1
    rw [List.getElem?_append_right (h.1 ▸ hk), ← h.1] at h2
    exact g.2 _ v m h1 h2
theorem NumsV.swap {w : World} {xs : List Value} {ns : List Nat} (h : NumsV w xs ns) (t : Nat) : NumsV w (swapL xs t) (swapL ns t) := by
  unfold swapL
  rw [h.1]
  exact ((h.take _).app ((h.drop _).app ((h.drop _).take _))).app ((h.drop _).take _)
/-- A frame's row: like fs0 but for the counter m, the gas G and the stack ns. -/
def FrameV (w : World) (fb : Nat) (fs0 : Array Value) (m G : Nat) (ns : List Nat) : Prop := ∃ (fs : Array Value) (pv gv sv : Value) (xs : List Value), w.heap[fb]? = some (.cells fs 142 (0, 0)) ∧ (∀ k, k ≠ 3 → k ≠ 4 → k ≠ 8 → fs[k]? = fs0[k]?) ∧ fs[3]? = some pv ∧ NumV w pv m ∧ fs[4]? = some gv ∧ NumV w gv G ∧ fs[8]? = some sv ∧ RowV w 89 sv xs ∧ NumsV w xs ns
theorem FrameV.kept {w w' : World} {fb : Nat} {fs0 : Array Value} {m G : Nat} {ns : List Nat} (h : FrameV w fb fs0 m G ns) (k : Kept [] w w') : FrameV w' fb fs0 m G ns := by
  obtain ⟨fs, pv, gv, sv, xs, h1, h2, h3, h4, h5, h6, h7, h8, h9⟩ := h
  exact ⟨fs, pv, gv, sv, xs, k.row h1 (by simp), h2, h3, h4.kept k, h5, h6.kept k, h7, h8.kept k, h9.kept k⟩
/-- What plain leaves. -/
theorem FrameV.after {w w' : World} {fb : Nat} {fs0 fs : Array Value} {m G : Nat} {pv gv sv v' pv' : Value} {ys : List Value} {ms : List Nat} (h1 : w.heap[fb]? = some (.cells fs 142 (0, 0))) (h2 : ∀ k, k ≠ 3 → k ≠ 4 → k ≠ 8 → fs[k]? = fs0[k]?) (h3 : fs[3]? = some pv) (h5 : fs[4]? = some gv) (h6 : NumV w gv G) (h7 : fs[8]? = some sv)
    (hsl : sv.oneCell' = true) (hnb : ∀ t l, Obj.cells fs 142 (0, 0) ≠ R8 t l) (K : Kept [fb] w w') (hr : w'.heap[fb]? = some (.cells ((fs.setIfInBounds 8 v').setIfInBounds 3 pv') 142 (0, 0))) (hv : RowV w' 89 v' ys) (hp : NumV w' pv' m) (hn : NumsV w' ys ms) : FrameV w' fb fs0 m G ms := by
  have z3 : 3 < fs.size := (Array.getElem?_eq_some_iff.1 h3).1
  have z8 : 8 < fs.size := (Array.getElem?_eq_some_iff.1 h7).1
  refine ⟨_, pv', gv, v', ys, hr, fun k k3 k4 k8 => ?_, ?_, hp, ?_, h6.keptC K h1 hnb, ?_, hv, hn⟩
  · rw [Array.getElem?_setIfInBounds_ne (by omega), Array.getElem?_setIfInBounds_ne (by omega)]
    exact h2 k k3 k4 k8
  · rw [Array.getElem?_setIfInBounds_self_of_lt (by simpa using z3)]
  · rw [Array.getElem?_setIfInBounds_ne (by omega), Array.getElem?_setIfInBounds_ne (by omega)]
    exact h5
  · rw [Array.getElem?_setIfInBounds_ne (by omega), Array.getElem?_setIfInBounds_self_of_lt (by simpa using z8)]
end Go.Own
namespace Go.Proofs.YgcsalGreat
open Go.RowKit Go.Own
/-- What plain does to the frame. -/
def PlainK (fb : Nat) (fs0 : Array Value) (o m i : Nat) (ns ms : List Nat) (cv : Value) (ds : List Nat) : Prop := ∀ (st : Value) (G : Nat) (w : World), FrameV w fb fs0 m G ns → NatV w cv ds → Calls Salg.prog 120 #[st, .pointer (some ⟨fb, 0, none⟩), .int .u8 o] w fun e w' => ∃ r, e = .returned r ∧ FrameV w' fb fs0 (m + (1 + i)) G ms ∧ Kept [fb] w w'
theorem rowV_slice {w : World} {e : TypeId} {sv : Value} {xs : List Value} (h : RowV w e sv xs) : ∃ p n m, sv = .slice p n m := by
  rcases h with ⟨rfl, _⟩ | ⟨g, cap, cur, rfl, _⟩
  · exact ⟨_, _, _, rfl⟩
  · exact ⟨_, _, _, rfl⟩
theorem plainK_pop (fb m : Nat) (fs0 : Array Value) (cv : Value) (ds ns : List Nat) (h10 : fs0[10]? = some cv) (hl : ns.length ≤ 40) (hlt : 1 ≤ ns.length) (hm : m ≤ 1000) (hl2 : ds.length ≤ 1000) : PlainK fb fs0 80 m 0 ns (ns.take (ns.length - 1)) cv ds := by
  intro st G w hF hc
  obtain ⟨fs, pv, gv, sv, xs, h1, h2, h3, h4, h5, h6, h7, h8, h9⟩ := hF
  have hxl := h9.1
  obtain ⟨p, n, k, rfl⟩ := rowV_slice h8
  have hnb := not_bytes_at (tc := 142) h7
  refine (plain_pop st fb m fs pv (.slice p n k) xs w h1 h3 h4 h7 h8 h9.one (by omega) (by omega) hm).mono ?_
  rintro e w' ⟨r, v', pv', rfl, K, hr, hv, hp⟩
  rw [hxl] at hv
  exact ⟨_, rfl, FrameV.after h1 h2 h3 h5 h6 h7 rfl hnb K hr hv hp ((h9.keptC K h1 hnb).take _), K⟩
theorem plainK_push (fb m : Nat) (o i c : Nat) (fs0 : Array Value) (cv : Value) (ds ns : List Nat) (hk : OpK o 0 1 i c) (h95 : 95 ≤ o) (h127 : o ≤ 127) (h10 : fs0[10]? = some cv) (hl : ns.length ≤ 40) (hlt : 0 ≤ ns.length) (hm : m ≤ 1000) (hl2 : ds.length ≤ 1000) : PlainK fb fs0 o m i ns (ns ++ [be (cutB ds (m + 1) i)]) cv ds := by
  intro st G w hF hc
  obtain ⟨fs, pv, gv, sv, xs, h1, h2, h3, h4, h5, h6, h7, h8, h9⟩ := hF
  have hxl := h9.1
  obtain ⟨p, n, k, rfl⟩ := rowV_slice h8
  have hnb := not_bytes_at (tc := 142) h7
  refine (plain_push st fb m o i c cv ds fs pv (.slice p n k) xs w hk h95 h127 h1 h3 h4 h7 h8 h9.one (by omega) (by omega) hm ((h2 10 (by decide) (by decide) (by decide)).trans h10) hc hl2).mono ?_
  rintro e w' ⟨r, v', pv', u, rfl, K, hr, hv, hp, hu⟩
  exact ⟨_, rfl, FrameV.after h1 h2 h3 h5 h6 h7 rfl hnb K hr hv hp ((h9.keptC K h1 hnb).push hu), K⟩
theorem plainK_dup (fb m : Nat) (o t g a : Nat) (fs0 : Array Value) (cv : Value) (ds ns : List Nat) (hk : OpK o t g 0 3) (h128 : 128 ≤ o) (h143 : o ≤ 143) (ht1 : 1 ≤ t) (ha : ns[ns.length - t]? = some a) (h10 : fs0[10]? = some cv) (hl : ns.length ≤ 40) (hlt : t ≤ ns.length) (hm : m ≤ 1000) (hl2 : ds.length ≤ 1000) : PlainK fb fs0 o m 0 ns (ns ++ [a]) cv ds := by
  intro st G w hF hc
  obtain ⟨fs, pv, gv, sv, xs, h1, h2, h3, h4, h5, h6, h7, h8, h9⟩ := hF
  have hxl := h9.1
  obtain ⟨p, n, k, rfl⟩ := rowV_slice h8
  have hnb := not_bytes_at (tc := 142) h7
  refine (plain_dup st fb m o t g fs pv (.slice p n k) xs w hk h128 h143 ht1 h1 h3 h4 h7 h8 h9.one (by omega) (by omega) hm).mono ?_
  rintro e w' ⟨r, v', pv', u, rfl, K, hr, hv, hp, hu⟩
  rw [hxl] at hu
  have hN := h9.keptC K h1 hnb
  exact ⟨_, rfl, FrameV.after h1 h2 h3 h5 h6 h7 rfl hnb K hr hv hp (hN.push (hN.2 _ _ _ hu ha)), K⟩
theorem plainK_swap (fb m : Nat) (o t g : Nat) (fs0 : Array Value) (cv : Value) (ds ns : List Nat) (hk : OpK o t g 0 3) (h144 : 144 ≤ o) (h159 : o ≤ 159) (ht2 : 2 ≤ t) (h10 : fs0[10]? = some cv) (hl : ns.length ≤ 40) (hlt : t ≤ ns.length) (hm : m ≤ 1000) (hl2 : ds.length ≤ 1000) : PlainK fb fs0 o m 0 ns (swapL ns t) cv ds := by
  intro st G w hF hc
  obtain ⟨fs, pv, gv, sv, xs, h1, h2, h3, h4, h5, h6, h7, h8, h9⟩ := hF
  have hxl := h9.1
  obtain ⟨p, n, k, rfl⟩ := rowV_slice h8
  have hnb := not_bytes_at (tc := 142) h7
  refine (plain_swap st fb m o t g fs pv (.slice p n k) xs w hk h144 h159 ht2 h1 h3 h4 h7 h8 h9.one (by omega) (by omega) hm).mono ?_
  rintro e w' ⟨r, v', pv', rfl, K, hr, hv, hp⟩
  exact ⟨_, rfl, FrameV.after h1 h2 h3 h5 h6 h7 rfl hnb K hr hv hp ((h9.keptC K h1 hnb).swap t), K⟩

set_option maxHeartbeats 4000000 in
set_option maxRecDepth 100000 in
theorem step_any (c fb m G o t g i k : Nat) (cs fs0 : Array Value) (cap : Nat) (ns ms : List Nat) (cv : Value) (ds : List Nat) (w : World) (hk : OpK o t g i k) (hpl : PlainK fb fs0 o m i ns ms cv ds) (hc : w.heap[c]? = some (.cells cs 119 (0, 0))) (h9 : cs[9]? = some (.slice (some ⟨fb, 0, none⟩) 1 cap)) (h11 : cs[11]? = some (.int .u8 1)) (hF : FrameV w fb fs0 m G ns) (hcv : NatV w cv ds) (hm : ds[m]? = some o) (hl : ds.length ≤ 1000)
    (f1 : fs0[1]? = some (.int .u8 0)) (f2 : fs0[2]? = some (.bool false)) (f9 : fs0[9]? = some (.slice none 0 0)) (f10 : fs0[10]? = some cv) (hn : t ≤ ns.length) (hn2 : ns.length ≤ 40) (hkG : k ≤ G) (hG : G < 256 ^ 200) :
    Calls Salg.prog 27 #[.pointer (some ⟨c, 0, none⟩)] w fun e w' => ∃ r, e = .returned r ∧ FrameV w' fb fs0 (m + (1 + i)) (G - k) ms ∧ Kept [fb] w w' := by
  have M := Mem.start w []
  obtain ⟨fs, pv, gv, sv, xs, hr, hfs, h3, hpv, h4, hgv, h8, hsv, hxs⟩ := hF
  have hxl := hxs.1
  obtain ⟨p, n, cp, rfl⟩ := rowV_slice hsv
  obtain rfl : n = xs.length := by
    rcases hsv with ⟨e, e2⟩ | ⟨g, cap, cur, e, _⟩
    · cases e; subst e2; rfl
    · cases e; rfl
  have hnb := hid (not_bytes_at (tc := 142) h8)
  have hrng := hk.rng
  have dneq1 : decide ((o : Int) = 1) = false := by simp; omega
  have eneq1 : decide (o = 1) = false := by simp; omega
  have dneq0 : decide ((o : Int) = 0) = false := by simp; omega
  have eneq0 : decide (o = 0) = false := by simp; omega
  have deql0 : decide ((o : Int) = 0) = false := by simp; omega
  have eeql0 : decide (o = 0) = false := by simp; omega
  have deql243 : decide ((o : Int) = 243) = false := by simp; omega
  have eeql243 : decide (o = 243) = false := by simp; omega
  have deql253 : decide ((o : Int) = 253) = false := by simp; omega
  have eeql253 : decide (o = 253) = false := by simp; omega
  have deql255 : decide ((o : Int) = 255) = false := by simp; omega
  have eeql255 : decide (o = 255) = false := by simp; omega
  have deql16 : decide ((o : Int) = 16) = false := by simp; omega
  have eeql16 : decide (o = 16) = false := by simp; omega
  have z4 : 4 < fs.size := (Array.getElem?_eq_some_iff.1 h4).1
  have g1 := (hfs 1 (by decide) (by decide) (by decide)).trans f1
  have g2 := (hfs 2 (by decide) (by decide) (by decide)).trans f2
  have g9 := (hfs 9 (by decide) (by decide) (by decide)).trans f9
  have g10 := (hfs 10 (by decide) (by decide) (by decide)).trans f10
  have HK := hid hk
  have HPL := hid hpl
  have HFS := hid hfs
  have HGV := hid hgv
  have HCV := hid hcv
  have HSV := hid hsv
  have HXS := hid hxs
  have HPV := hid hpv
  have HOC := hid (opcode_in fb m o fs pv cv ds w hr h3 g10 hpv hcv hm hl)
  have HFC := hid (row_ne hr hc (by rintro h; cases h))
  clear hk hpl hfs hgv hcv hsv hxs hpv f1 f2 f9 f10
  go_enter Salg.func27, Salg.ntmps27
  go_wp2_with (first
    | ((with_reducible apply W_loadCell); rfl; exact M.kept.row hc (by simp); exact h11; exact Salg.underlying5; rfl; simp only [Act.put, List.setIfInBounds_toArray, List.set_cons_zero, List.set_cons_succ])
    | ((with_reducible apply W_loadCellG); rfl; rfl; exact M.kept.row hc (by simp); exact h9; exact Salg.underlying115; rfl; simp only [Act.put, List.setIfInBounds_toArray, List.set_cons_zero, List.set_cons_succ]))
  refine S_region (by kernel_rfl) ?_
  refine E_stage 0 12 [0, 1, 2, 3, 4, 5, 6, 7, 8, 9, 10, 11] (by kernel_rfl) M.drew ?_
  clear M
  simp only [List.filterMap_cons, List.filterMap_nil, List.getElem?_cons_zero, List.getElem?_cons_succ]
  ((with_reducible apply E_run); rfl; rfl; (intro w M; go_simp; (try go_ints); (try simp only [↓IntWalk.iteOmega]); (try with_reducible rfl)); simp only [Act.put, List.setIfInBounds_toArray, List.set_cons_zero, List.set_cons_succ])
  ((with_reducible apply E_run); rfl; rfl; (intro w M; go_simp; (try go_ints); (try simp only [↓IntWalk.iteOmega]); (try with_reducible rfl)); simp only [Act.put, List.setIfInBounds_toArray, List.set_cons_zero, List.set_cons_succ])
  ((with_reducible apply E_run); rfl; rfl; (intro w M; go_simp; (try go_ints); (try simp only [↓IntWalk.iteOmega]); (try with_reducible rfl)); simp only [Act.put, List.setIfInBounds_toArray, List.set_cons_zero, List.set_cons_succ])
  ((with_reducible apply E_run); rfl; rfl; (intro w M; exact run_loadCell (M.kept.row hc (by simp)) rfl h9 Salg.underlying115 rfl); simp only [Act.put, List.setIfInBounds_toArray, List.set_cons_zero, List.set_cons_succ])
  ((with_reducible apply E_run); rfl; rfl; (intro w M; go_simp; (try go_ints); (try simp only [↓IntWalk.iteOmega]); (try with_reducible rfl)); simp only [Act.put, List.setIfInBounds_toArray, List.set_cons_zero, List.set_cons_succ])
  ((with_reducible apply E_run); rfl; rfl; (intro w M; go_simp; (try go_ints); (try simp only [↓IntWalk.iteOmega]); (try with_reducible rfl)); simp only [Act.put, List.setIfInBounds_toArray, List.set_cons_zero, List.set_cons_succ])
  ((with_reducible apply E_run); rfl; rfl; (intro w M; go_simp; (try go_ints); (try simp only [↓IntWalk.iteOmega]); (try with_reducible rfl)); simp only [Act.put, List.setIfInBounds_toArray, List.set_cons_zero, List.set_cons_succ])
  ((with_reducible apply E_run); rfl; rfl; (intro w M; exact run_loadCell (M.kept.row hc (by simp)) rfl h9 Salg.underlying115 rfl); simp only [Act.put, List.setIfInBounds_toArray, List.set_cons_zero, List.set_cons_succ])
  ((with_reducible apply E_run); rfl; rfl; (intro w M; go_simp; (try go_ints); (try simp only [↓IntWalk.iteOmega]); (try with_reducible rfl)); simp only [Act.put, List.setIfInBounds_toArray, List.set_cons_zero, List.set_cons_succ])
  ((with_reducible apply E_run); rfl; rfl; (intro w M; go_simp; (try go_ints); (try simp only [↓IntWalk.iteOmega]); (try with_reducible rfl)); simp only [Act.put, List.setIfInBounds_toArray, List.set_cons_zero, List.set_cons_succ])
  ((with_reducible apply E_run); rfl; rfl; (intro w M; go_simp; (try go_ints); (try simp only [↓IntWalk.iteOmega]); (try with_reducible rfl)); simp only [Act.put, List.setIfInBounds_toArray, List.set_cons_zero, List.set_cons_succ])
  ((with_reducible apply E_run); rfl; rfl; (intro w M; go_simp; (try go_ints); (try simp only [↓IntWalk.iteOmega]); (try with_reducible rfl)); simp only [Act.put, List.setIfInBounds_toArray, List.set_cons_zero, List.set_cons_succ])
  refine E_nil ?_
  intro w9 K M
  clear K
  refine S_done ?_
  go_wp2_with ((with_reducible apply W_loadCell); rfl; exact M.kept.row hr (by simp); exact g1; exact Salg.underlying5; rfl; simp only [Act.put, List.setIfInBounds_toArray, List.set_cons_zero, List.set_cons_succ])
  refine (opcode_in fb m o fs pv cv ds _ (M.kept.row hr (by simp)) h3 g10 (HPV.out.kept M.kept) (HCV.out.kept M.kept) hm hl).mono ?_
  rintro e w1 ⟨rfl, K⟩
  replace M := M.call K
  clear K
  go_wp2_with fail
  refine (refusal_any _ fb o t g i k xs.length G fs gv p cp _ HK.out (M.kept.row hr (by simp)) g2 h4 h8 g9 (by omega) (by omega) (HGV.out.kept M.kept) hkG).mono ?_
  rintro e w2 ⟨r, rfl, xHR, K⟩
  have HR := hid xHR
  replace M := M.call K
  clear K xHR
  go_wp2_with ((with_reducible apply W_loadCell); rfl; exact M.kept.row hr (by simp); exact h4; exact Salg.underlying89; rfl; simp only [Act.put, List.setIfInBounds_toArray, List.set_cons_zero, List.set_cons_succ])
  refine (less_any gv r G k _ (HGV.out.kept M.kept) HR.out hG hkG).mono ?_
  rintro e w3 ⟨r2, rfl, xHR2, K⟩
  have HR2 := hid xHR2
  replace M := M.call K
  clear K xHR2
  have hrow := M.kept.row hr (by simp)
  go_wp2_with ((with_reducible apply W_stV (b := fb) (o := 4) (v := r2)); rfl; rfl; exact HR2.out.one; exact hrow; exact size89; exact z4; intro w4 K1 hr4)
  refine (HK.out.re _ _).mono ?_
  rintro e w5 ⟨rfl, hw⟩
  replace hw := hw.symm
  subst hw
  go_wp2_with fail
  refine (grow_nil fb _ _ hr4 ((Array.getElem?_setIfInBounds_ne (by decide)).trans g9)).mono ?_
  rintro e w6 ⟨r3, rfl, K⟩
  have K2 := K
  clear K
  have HF : Hid (FrameV w6 fb fs0 m (G - k) ns) := by
    have KK := M.kept.trans' K1 K2
    refine ⟨_, pv, r2, .slice p xs.length cp, xs, K2.row hr4 (by simp), fun j j3 j4 j8 => (Array.getElem?_setIfInBounds_ne (by omega)).trans (HFS.out j j3 j4 j8), (Array.getElem?_setIfInBounds_ne (by decide)).trans h3, HPV.out.keptC KK hr hnb.out, Array.getElem?_setIfInBounds_self_of_lt z4, (HR2.out.keptC K1 hrow hnb.out).kept K2, (Array.getElem?_setIfInBounds_ne (by decide)).trans h8, HSV.out.keptC KK hr (by decide), HXS.out.keptC KK hr hnb.out⟩
  have HC2 : Hid (NatV w6 cv ds) := HCV.out.keptC (M.kept.trans' K1 K2) hr hnb.out
  have HKK := hid (M.kept.trans' K1 K2)
  clear M K1 K2 hr4 hrow
  go_wp2_with fail
  refine (HK.out.fam _).mono ?_
  rintro e w7 ⟨rfl, hw⟩
  replace hw := hw.symm
  subst hw
  go_wp2_with fail
  refine (HPL.out _ _ _ HF.out HC2.out).mono ?_
  rintro e w8 ⟨r5, rfl, xF, K⟩
  have HF2 := hid xF
  have HK3 := hid (HKK.out.trans K)
  clear K xF
  go_wp2_with fail
  go_ret
  exact ⟨_, rfl, HF2.out, HK3.out⟩
end Go.Proofs.YgcsalGreat

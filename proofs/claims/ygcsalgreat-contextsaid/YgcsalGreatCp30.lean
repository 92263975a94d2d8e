/-
  Runs with memory: each step with the gas held within bounds.
-/
import Derived.Test.YgcsalGreatCp24
import Derived.Test.YgcsalGreatCp29
set_option linter.unusedSimpArgs false
set_option linter.unusedVariables false
namespace Go.Own
/-- What a run of a frame reads: its code lies in the base world. -/
structure RunE (wB : World) (c fbB q : Nat) (cv : Value) (ds : List Nat) (fs0 : Array Value) : Prop where
  hard : Hard [c, fbB] wB
  code : NatV wB cv ds
  fd : FrD fs0 q cv
  len : ds.length ≤ 1000
/-- The state of a run, the gas at least lo. -/
def StG (lo hi : Nat) (wB : World) (c fbB : Nat) (E : CEnv) (rr fb q n cap : Nat) (fs0 : Array Value) (m : Nat) (ns : List Nat) (mem : List Nat) (W : Nat) (rt : Value) (rd : List Nat) (la : List (List Nat)) (w : World) : Prop := ∃ G, lo ≤ G ∧ G ≤ hi ∧ hi ≤ 200000 ∧ StE wB c fbB E rr fb q n cap fs0 m G ns mem W rt rd la w
end Go.Own
namespace Go.Proofs.YgcsalGreat
open Go.RowKit Go.Own
theorem growC_le {W U K : Nat} (h : memC (wds U) ≤ K) : growC W U ≤ K := Nat.le_trans (Nat.sub_le _ _) h
theorem memC_small {U : Nat} (h : U ≤ 640) : memC (wds U) ≤ 60 := by
  have h1 : wds U ≤ 20 := by unfold wds; omega
  have h2 := memC_mono h1
  exact Nat.le_trans h2 (by decide)
section
variable {wB : World} {c fbB : Nat} {E : CEnv} {rr fb cap : Nat} {fs0 : Array Value} {m : Nat} {ns : List Nat} {mem : List Nat} {W : Nat} {rt : Value} {rd : List Nat} {la : List (List Nat)} {w : World} {cv : Value} {ds : List Nat} {lo hi n : Nat} {Q : World → Prop}
theorem play_push0 (r2 : Nat) (R : RunE wB c fbB 0 cv ds fs0) (h : StG (lo) hi wB c fbB E rr fb 0 1 cap fs0 (m) ns mem W rt rd la w) (hm : ds[m]? = some 95) (hns : ns.length ≤ 20) (hr2 : r2 ≤ rr) (hr3 : r2 ≤ ns.length) (hm1 : m ≤ 900) (hlo : 2 ≤ lo) (k : ∀ w', StG (lo - 2) hi wB c fbB E r2 fb 0 1 cap fs0 (m + (1 + 0)) (ns ++ [0]) mem W rt rd la w' → Play c Q n w') : Play c Q (n + 1) w := by
  obtain ⟨G, g1, g2, g0, hE⟩ := h
  refine Play.step (stepX_push01 0 r2 hE R.hard R.code R.fd hm R.len hns hm1 (by omega) (by omega) hr2 hr3 (by simp [cutB, be])) fun w' hE' => k w' ⟨_, ?_, ?_, g0, hE'⟩
  · omega
  · omega
theorem play_push1 (V r2 : Nat) (R : RunE wB c fbB 0 cv ds fs0) (h : StG (lo) hi wB c fbB E rr fb 0 1 cap fs0 (m) ns mem W rt rd la w) (hm : ds[m]? = some 96) (hV : be (cutB ds (m + 1) 1) = V) (hns : ns.length ≤ 20) (hr2 : r2 ≤ rr) (hr3 : r2 ≤ ns.length) (hm1 : m ≤ 900) (hlo : 3 ≤ lo) (k : ∀ w', StG (lo - 3) hi wB c fbB E r2 fb 0 1 cap fs0 (m + (1 + 1)) (ns ++ [V]) mem W rt rd la w' → Play c Q n w') : Play c Q (n + 1) w := by
  obtain ⟨G, g1, g2, g0, hE⟩ := h
  refine Play.step (stepX_push11 V r2 hE R.hard R.code R.fd hm R.len hns hm1 (by omega) (by omega) hr2 hr3 hV) fun w' hE' => k w' ⟨_, ?_, ?_, g0, hE'⟩
  · omega
  · omega
theorem play_calldatasize (A r2 : Nat) (sp : Option Addr) (sq : Nat) (R : RunE wB c fbB 0 cv ds fs0) (h : StG (lo) hi wB c fbB E rr fb 0 1 cap fs0 (m) ns mem W rt rd la w) (hm : ds[m]? = some 54) (h11 : fs0[0 + 11]? = some (.slice sp A sq)) (hA : A ≤ 100000) (hns : ns.length ≤ 20) (hr2 : r2 ≤ rr) (hr3 : r2 ≤ ns.length) (hm1 : m ≤ 900) (hlo : 2 ≤ lo) (k : ∀ w', StG (lo - 2) hi wB c fbB E r2 fb 0 1 cap fs0 (m + 1) (ns ++ [A]) mem W rt rd la w' → Play c Q n w') : Play c Q (n + 1) w := by
  obtain ⟨G, g1, g2, g0, hE⟩ := h
  refine Play.step (stepX_calldatasize1 A sp sq r2 hE R.hard R.code R.fd hm R.len hns hm1 (by omega) (by omega) hr2 hr3 h11 hA) fun w' hE' => k w' ⟨_, ?_, ?_, g0, hE'⟩
  · omega
  · omega
theorem play_calldatacopy (N O D : Nat) (iu : Value) (dd : List Nat) (R : RunE wB c fbB 0 cv ds fs0) (h : StG (lo) hi wB c fbB E rr fb 0 1 cap fs0 (m) (ns ++ [N, O, D]) mem W rt rd la w) (hm : ds[m]? = some 55) (hns : ns.length ≤ 20) (hrr : ns.length ≤ rr) (hrr2 : rr ≤ (ns ++ [N, O, D]).length) (hD : D ≤ 300) (hN : N ≤ 300) (hiu : NatV wB iu dd) (h11 : fs0[0 + 11]? = some iu) (hdl : dd.length ≤ 1000) (hm1 : m ≤ 900) (hlo : 100 ≤ lo) (k : ∀ w', StG (lo - 100) hi wB c fbB E ns.length fb 0 1 cap fs0 (m + 1) ns (wrB (growB mem (endN D N)) D (cutB dd O N)) (max W (wds (endN D N))) rt rd la w' → Play c Q n w') : Play c Q (n + 1) w := by
  obtain ⟨G, g1, g2, g0, hE⟩ := h
  have hgr := growC_le (W := W) (memC_small (U := endN D N) (by have := endN_le D N; omega))
  have hwd : wds N ≤ 10 := (by unfold wds; omega)
  refine Play.step (stepX_calldatacopy1 N O D iu dd hE R.hard R.code R.fd hm R.len hns hm1 (by have : wds N ≤ 10 := (by unfold wds; omega); omega) (by omega) hrr hrr2 hD hN hiu h11 hdl) fun w' hE' => k w' ⟨_, ?_, ?_, g0, hE'⟩
  · omega
  · omega
theorem play_push02 (r2 : Nat) (R : RunE wB c fbB 60 cv ds fs0) (h : StG (lo) hi wB c fbB E rr fb 60 2 cap fs0 (m) ns mem W rt rd la w) (hm : ds[m]? = some 95) (hns : ns.length ≤ 20) (hr2 : r2 ≤ rr) (hr3 : r2 ≤ ns.length) (hm1 : m ≤ 900) (hlo : 2 ≤ lo) (k : ∀ w', StG (lo - 2) hi wB c fbB E r2 fb 60 2 cap fs0 (m + (1 + 0)) (ns ++ [0]) mem W rt rd la w' → Play c Q n w') : Play c Q (n + 1) w := by
  obtain ⟨G, g1, g2, g0, hE⟩ := h
  refine Play.step (stepX_push02 0 r2 hE R.hard R.code R.fd hm R.len hns hm1 (by omega) (by omega) hr2 hr3 (by simp [cutB, be])) fun w' hE' => k w' ⟨_, ?_, ?_, g0, hE'⟩
  · omega
  · omega
theorem play_push12 (V r2 : Nat) (R : RunE wB c fbB 60 cv ds fs0) (h : StG (lo) hi wB c fbB E rr fb 60 2 cap fs0 (m) ns mem W rt rd la w) (hm : ds[m]? = some 96) (hV : be (cutB ds (m + 1) 1) = V) (hns : ns.length ≤ 20) (hr2 : r2 ≤ rr) (hr3 : r2 ≤ ns.length) (hm1 : m ≤ 900) (hlo : 3 ≤ lo) (k : ∀ w', StG (lo - 3) hi wB c fbB E r2 fb 60 2 cap fs0 (m + (1 + 1)) (ns ++ [V]) mem W rt rd la w' → Play c Q n w') : Play c Q (n + 1) w := by
  obtain ⟨G, g1, g2, g0, hE⟩ := h
  refine Play.step (stepX_push12 V r2 hE R.hard R.code R.fd hm R.len hns hm1 (by omega) (by omega) hr2 hr3 hV) fun w' hE' => k w' ⟨_, ?_, ?_, g0, hE'⟩
  · omega
  · omega
theorem play_calldatasize2 (A r2 : Nat) (sp : Option Addr) (sq : Nat) (R : RunE wB c fbB 60 cv ds fs0) (h : StG (lo) hi wB c fbB E rr fb 60 2 cap fs0 (m) ns mem W rt rd la w) (hm : ds[m]? = some 54) (h11 : fs0[60 + 11]? = some (.slice sp A sq)) (hA : A ≤ 100000) (hns : ns.length ≤ 20) (hr2 : r2 ≤ rr) (hr3 : r2 ≤ ns.length) (hm1 : m ≤ 900) (hlo : 2 ≤ lo) (k : ∀ w', StG (lo - 2) hi wB c fbB E r2 fb 60 2 cap fs0 (m + 1) (ns ++ [A]) mem W rt rd la w' → Play c Q n w') : Play c Q (n + 1) w := by
  obtain ⟨G, g1, g2, g0, hE⟩ := h
  refine Play.step (stepX_calldatasize2 A sp sq r2 hE R.hard R.code R.fd hm R.len hns hm1 (by omega) (by omega) hr2 hr3 h11 hA) fun w' hE' => k w' ⟨_, ?_, ?_, g0, hE'⟩
  · omega
  · omega
theorem play_calldatacopy2 (N O D : Nat) (iu : Value) (dd : List Nat) (R : RunE wB c fbB 60 cv ds fs0) (h : StG (lo) hi wB c fbB E rr fb 60 2 cap fs0 (m) (ns ++ [N, O, D]) mem W rt rd la w) (hm : ds[m]? = some 55) (hns : ns.length ≤ 20) (hrr : ns.length ≤ rr) (hrr2 : rr ≤ (ns ++ [N, O, D]).length) (hD : D ≤ 300) (hN : N ≤ 300) (hiu : NatV wB iu dd) (h11 : fs0[60 + 11]? = some iu) (hdl : dd.length ≤ 1000) (hm1 : m ≤ 900) (hlo : 100 ≤ lo) (k : ∀ w', StG (lo - 100) hi wB c fbB E ns.length fb 60 2 cap fs0 (m + 1) ns (wrB (growB mem (endN D N)) D (cutB dd O N)) (max W (wds (endN D N))) rt rd la w' → Play c Q n w') : Play c Q (n + 1) w := by
  obtain ⟨G, g1, g2, g0, hE⟩ := h
  have hgr := growC_le (W := W) (memC_small (U := endN D N) (by have := endN_le D N; omega))
  have hwd : wds N ≤ 10 := (by unfold wds; omega)
  refine Play.step (stepX_calldatacopy2 N O D iu dd hE R.hard R.code R.fd hm R.len hns hm1 (by have : wds N ≤ 10 := (by unfold wds; omega); omega) (by omega) hrr hrr2 hD hN hiu h11 hdl) fun w' hE' => k w' ⟨_, ?_, ?_, g0, hE'⟩
  · omega
  · omega
theorem play_push32 (V r2 : Nat) (R : RunE wB c fbB 0 cv ds fs0) (h : StG (lo) hi wB c fbB E rr fb 0 1 cap fs0 (m) ns mem W rt rd la w) (hm : ds[m]? = some 127) (hV : be (cutB ds (m + 1) 32) = V) (hns : ns.length ≤ 20) (hr2 : r2 ≤ rr) (hr3 : r2 ≤ ns.length) (hm1 : m ≤ 900) (hlo : 3 ≤ lo) (k : ∀ w', StG (lo - 3) hi wB c fbB E r2 fb 0 1 cap fs0 (m + (1 + 32)) (ns ++ [V]) mem W rt rd la w' → Play c Q n w') : Play c Q (n + 1) w := by
  obtain ⟨G, g1, g2, g0, hE⟩ := h
  refine Play.step (stepX_push321 V r2 hE R.hard R.code R.fd hm R.len hns hm1 (by omega) (by omega) hr2 hr3 hV) fun w' hE' => k w' ⟨_, ?_, ?_, g0, hE'⟩
  · omega
  · omega
theorem play_not (A r2 : Nat) (R : RunE wB c fbB 0 cv ds fs0) (h : StG (lo) hi wB c fbB E rr fb 0 1 cap fs0 (m) (ns ++ [A]) mem W rt rd la w) (hm : ds[m]? = some 25) (hA : A < 2 ^ 256) (hns : ns.length ≤ 20) (hr2 : r2 ≤ rr) (hr3 : r2 ≤ ns.length) (hm1 : m ≤ 900) (hlo : 3 ≤ lo) (k : ∀ w', StG (lo - 3) hi wB c fbB E r2 fb 0 1 cap fs0 (m + 1) (ns ++ [(18446744073709551616 ^ 4 - 1 - A) % 18446744073709551616 ^ 4]) mem W rt rd la w' → Play c Q n w') : Play c Q (n + 1) w := by
  obtain ⟨G, g1, g2, g0, hE⟩ := h
  refine Play.step (stepX_not1 A r2 hE R.hard R.code R.fd hm R.len hns hm1 (by omega) (by omega) hr2 hr3 hA) fun w' hE' => k w' ⟨_, ?_, ?_, g0, hE'⟩
  · omega
  · omega
theorem play_calldataload (A r2 : Nat) (iu : Value) (dd : List Nat) (R : RunE wB c fbB 0 cv ds fs0) (h : StG (lo) hi wB c fbB E rr fb 0 1 cap fs0 (m) (ns ++ [A]) mem W rt rd la w) (hm : ds[m]? = some 53) (hiu : NatV wB iu dd) (h11 : fs0[0 + 11]? = some iu) (hdl : dd.length ≤ 1000) (hns : ns.length ≤ 20) (hr2 : r2 ≤ rr) (hr3 : r2 ≤ ns.length) (hm1 : m ≤ 900) (hlo : 3 ≤ lo) (k : ∀ w', StG (lo - 3) hi wB c fbB E r2 fb 0 1 cap fs0 (m + 1) (ns ++ [be (cutB dd A 32)]) mem W rt rd la w' → Play c Q n w') : Play c Q (n + 1) w := by
  obtain ⟨G, g1, g2, g0, hE⟩ := h
  refine Play.step (stepX_calldataload1 A iu dd r2 hE R.hard R.code R.fd hm R.len hns hm1 (by omega) (by omega) hr2 hr3 hiu h11 hdl) fun w' hE' => k w' ⟨_, ?_, ?_, g0, hE'⟩
  · omega
  · omega
theorem play_mstore (A : Nat) (bs : List Nat) (R : RunE wB c fbB 0 cv ds fs0) (h : StG (lo) hi wB c fbB E rr fb 0 1 cap fs0 (m) (ns ++ [be bs, A]) mem W rt rd la w) (hm : ds[m]? = some 82) (hns : ns.length ≤ 20) (hrr : ns.length ≤ rr) (hrr2 : rr ≤ (ns ++ [be bs, A]).length) (hb : bs.length = 32) (hs : Small bs) (hA : A ≤ 600) (hm1 : m ≤ 900) (hlo : 100 ≤ lo) (k : ∀ w', StG (lo - 100) hi wB c fbB E ns.length fb 0 1 cap fs0 (m + 1) ns (wrB (growB mem (A + 32)) A bs) (max W (wds (A + 32))) rt rd la w' → Play c Q n w') : Play c Q (n + 1) w := by
  obtain ⟨G, g1, g2, g0, hE⟩ := h
  have hgr := growC_le (W := W) (memC_small (U := A + 32) (by omega))
  refine Play.step (stepX_mstore1 A bs hE R.hard R.code R.fd hm R.len hns hm1 (by omega) (by omega) hrr hrr2 hb hs hA) fun w' hE' => k w' ⟨_, ?_, ?_, g0, hE'⟩
  · omega
  · omega
theorem play_codecopy (N O D : Nat) (R : RunE wB c fbB 0 cv ds fs0) (h : StG (lo) hi wB c fbB E rr fb 0 1 cap fs0 (m) (ns ++ [N, O, D]) mem W rt rd la w) (hm : ds[m]? = some 57) (hns : ns.length ≤ 20) (hrr : ns.length ≤ rr) (hrr2 : rr ≤ (ns ++ [N, O, D]).length) (hD : D ≤ 300) (hN : N ≤ 300) (hm1 : m ≤ 900) (hlo : 100 ≤ lo) (k : ∀ w', StG (lo - 100) hi wB c fbB E ns.length fb 0 1 cap fs0 (m + 1) ns (wrB (growB mem (endN D N)) D (cutB ds O N)) (max W (wds (endN D N))) rt rd la w' → Play c Q n w') : Play c Q (n + 1) w := by
  obtain ⟨G, g1, g2, g0, hE⟩ := h
  have hgr := growC_le (W := W) (memC_small (U := endN D N) (by have := endN_le D N; omega))
  have hwd : wds N ≤ 10 := (by unfold wds; omega)
  refine Play.step (stepX_codecopy1 N O D hE R.hard R.code R.fd hm R.len hns hm1 (by omega) (by omega) hrr hrr2 hD hN) fun w' hE' => k w' ⟨_, ?_, ?_, g0, hE'⟩
  · omega
  · omega
theorem play_mcopy (N O D : Nat) (R : RunE wB c fbB 0 cv ds fs0) (h : StG (lo) hi wB c fbB E rr fb 0 1 cap fs0 (m) (ns ++ [N, O, D]) mem W rt rd la w) (hm : ds[m]? = some 94) (hns : ns.length ≤ 20) (hrr : ns.length ≤ rr) (hrr2 : rr ≤ (ns ++ [N, O, D]).length) (hD : D ≤ 300) (hN : N ≤ 300) (h00 : 0 < mem.length) (hO : O ≤ 300) (hm1 : m ≤ 900) (hlo : 100 ≤ lo) (k : ∀ w', StG (lo - 100) hi wB c fbB E ns.length fb 0 1 cap fs0 (m + 1) ns (wrB (growB mem (max (endN D N) (endN O N))) D (cutB (growB mem (max (endN D N) (endN O N))) O N)) (max W (wds (max (endN D N) (endN O N)))) rt rd la w' → Play c Q n w') : Play c Q (n + 1) w := by
  obtain ⟨G, g1, g2, g0, hE⟩ := h
  have hgr := growC_le (W := W) (memC_small (U := max (endN D N) (endN O N)) (by have := endN_le D N; have := endN_le O N; omega))
  have hwd : wds N ≤ 10 := (by unfold wds; omega)
  refine Play.step (stepX_mcopy1 N O D hE R.hard R.code R.fd hm R.len hns hm1 (by omega) (by omega) hrr hrr2 hD hN h00 hO) fun w' hE' => k w' ⟨_, ?_, ?_, g0, hE'⟩
  · omega
  · omega
theorem play_returndatacopy (N O D : Nat) (R : RunE wB c fbB 0 cv ds fs0) (h : StG (lo) hi wB c fbB E rr fb 0 1 cap fs0 (m) (ns ++ [N, O, D]) mem W rt rd la w) (hm : ds[m]? = some 62) (hns : ns.length ≤ 20) (hrr : ns.length ≤ rr) (hrr2 : rr ≤ (ns ++ [N, O, D]).length) (hD : D ≤ 300) (hN : N ≤ 300) (h00 : 0 < mem.length) (hb : O + N ≤ rd.length) (hrl : rd.length ≤ 1000) (hm1 : m ≤ 900) (hlo : 100 ≤ lo) (k : ∀ w', StG (lo - 100) hi wB c fbB E ns.length fb 0 1 cap fs0 (m + 1) ns (wrB (growB mem (endN D N)) D (cutB rd O N)) (max W (wds (endN D N))) rt rd la w' → Play c Q n w') : Play c Q (n + 1) w := by
  obtain ⟨G, g1, g2, g0, hE⟩ := h
  have hgr := growC_le (W := W) (memC_small (U := endN D N) (by have := endN_le D N; omega))
  have hwd : wds N ≤ 10 := (by unfold wds; omega)
  refine Play.step (stepX_returndatacopy1 N O D hE R.hard R.code R.fd hm R.len hns hm1 (by omega) (by omega) hrr hrr2 hD hN h00 hb hrl) fun w' hE' => k w' ⟨_, ?_, ?_, g0, hE'⟩
  · omega
  · omega
theorem play_extcodecopy (N O D : Nat) (ds1 ds2 : List Nat) (R : RunE wB c fbB 0 cv ds fs0) (h : StG (lo) hi wB c fbB E rr fb 0 1 cap fs0 (m) (ns ++ [N, O, D, 2]) mem W rt rd la w) (hm : ds[m]? = some 60) (hns : ns.length ≤ 20) (hrr : ns.length ≤ rr) (hrr2 : rr ≤ (ns ++ [N, O, D, 2]).length) (hD : D ≤ 300) (hN : N ≤ 300) (h00 : 0 < mem.length) (hSt : StatW wB E ds1 ds2) (hn2 : ad 2 ∉ la) (hla : la.length ≤ 20) (hl2 : ds2.length ≤ 1000) (hm1 : m ≤ 900) (hlo : 2700 ≤ lo) (k : ∀ w', StG (lo - 2700) hi wB c fbB E ns.length fb 0 1 cap fs0 (m + 1) ns (wrB (growB mem (endN D N)) D (cutB ds2 O N)) (max W (wds (endN D N))) rt rd (adWith la (ad 2)) w' → Play c Q n w') : Play c Q (n + 1) w := by
  obtain ⟨G, g1, g2, g0, hE⟩ := h
  have hgr := growC_le (W := W) (memC_small (U := endN D N) (by have := endN_le D N; omega))
  have hwd : wds N ≤ 10 := (by unfold wds; omega)
  refine Play.step (stepX_extcodecopy1 N O D ds1 ds2 hE R.hard R.code R.fd hm R.len hns hm1 (by omega) (by omega) hrr hrr2 hD hN h00 hSt hn2 hla hl2) fun w' hE' => k w' ⟨_, ?_, ?_, g0, hE'⟩
  · omega
  · omega
end
end Go.Proofs.YgcsalGreat

/-
  Runs of Context: the probe, and a forwarder behind its call.
-/
import Derived.Test.YgcsalGreatCx16
import Derived.Test.YgcsalGreatCp37
set_option linter.unusedSimpArgs false
set_option linter.unusedVariables false
namespace Go.Own
open Go.Proofs.YgcsalGreat
theorem ext_cell {fs : Array Value} {a : Nat} {l : List Nat} (h : fs.extract a (a + 20) = (l.map n8).toArray) (hl : l.length = 20) : ∀ i x, l[i]? = some x → fs[a + i]? = some (n8 x) := by
  intro i x hx
  have hi : i < 20 := by
    have := (List.getElem?_eq_some_iff.1 hx).1
    omega
  have e : (fs.extract a (a + 20))[i]? = some (n8 x) := by
    rw [h, List.getElem?_toArray, List.getElem?_map, hx]
    rfl
  rw [Array.getElem?_extract] at e
  split at e
  · exact e
  · cases e
theorem mem_app {mem bs : List Nat} {i : Nat} (hm : mem.length = 32 * i) (hb : bs.length = 32) : wrB (growB mem (32 * i + 32)) (32 * i) bs = mem ++ bs := by
  unfold growB wrB
  rw [show wds (32 * i + 32) = i + 1 by unfold wds; omega, show 32 * (i + 1) - mem.length = 32 by omega, hb]
  rw [List.take_append_of_le_length (by omega), ← hm, List.take_length, List.drop_of_length_le (by simp), List.append_nil]
theorem be_pad (k : Nat) (l : List Nat) : be (List.replicate k 0 ++ l) = be l := by
  induction k with
  | zero => simp
  | succ k ih => rw [List.replicate_succ, List.cons_append]; rw [← ih]; simp [be]
/-- The bytes of an address, and of a small number, as a word. -/
def padA (a : List Nat) : List Nat := List.replicate 12 0 ++ a
def padN (v : Nat) : List Nat := List.replicate 31 0 ++ [v]
theorem padA_len {a : List Nat} (h : a.length = 20) : (padA a).length = 32 := by simp [padA, h]
theorem padA_small {a : List Nat} (h : Small a) : Small (padA a) := by
  intro x hx
  rcases List.mem_append.1 hx with hx | hx
  · have := (List.mem_replicate.1 hx).2
    omega
  · exact h x hx
theorem padA_be (a : List Nat) : be (padA a) = be a := be_pad 12 a
theorem padN_small {v : Nat} (h : v < 256) : Small (padN v) := by
  intro x hx
  rcases List.mem_append.1 hx with hx | hx
  · have := (List.mem_replicate.1 hx).2
    omega
  · simp at hx
    omega
theorem padN_be (v : Nat) : be (padN v) = v := by
  rw [padN, be_pad]
  simp [be]
def probeL : List Nat := [48, 95, 82, 51, 96, 32, 82, 52, 96, 64, 82, 50, 96, 96, 82, 96, 128, 95, 243]
/-- What the probe returns. -/
def probeM (sf cl : List Nat) (v : Nat) : List Nat := padA sf ++ padA cl ++ padN v ++ padA (ad 240)
theorem probeM_len {sf cl : List Nat} {v : Nat} (h1 : sf.length = 20) (h2 : cl.length = 20) : (probeM sf cl v).length = 128 := by simp [probeM, padA, padN, h1, h2, ad]
end Go.Own
namespace Go.Proofs.YgcsalGreat
open Go.RowKit Go.Own
theorem probe_run1 {wB : World} {c fbB : Nat} {E : XEnv} {fb cap : Nat} {fs0 : Array Value} {G : Nat} {la : List (List Nat)} {w : World} {cv vv : Value} {sf cl : List Nat} {sb : Bool} {V j : Nat} {Q : World → Prop} (R : RunY wB c fbB 0 sb cv probeL fs0 sf cl) (hs1 : Small sf) (hs2 : Small cl) (h5 : fs0[0 + 5]? = some vv) (hvv : NumV wB vv V) (hV : V < 256) (hG1 : 1000 ≤ G) (hG2 : G ≤ 300000) (h : StF wB c fbB E 0 fb 0 1 cap fs0 0 G [] [] 0 nilS [] la w) (k : ∀ w', StF wB c fbB E 0 fb 0 1 cap fs0 18 (G - 48) [128, 0] (probeM sf cl V) 4 nilS [] la w' → Play c Q j w') : Play c Q (j + 14) w := by
  have hself := ext_cell R.se R.sl
  have hcaller := ext_cell R.ca R.cl
  replace h : StF wB c fbB E 0 fb 0 1 cap fs0 0 (G - 0) [] [] 0 nilS [] la w := h
  refine Play.step (stepY_address1 sf 0 h R.hard R.code R.fd rfl R.len (by simp) (by omega) (by omega) (by omega) (Nat.zero_le _) (Nat.zero_le _) hself R.sl hs1) fun w' h => ?_
  replace h : StF wB c fbB E 0 fb 0 1 cap fs0 1 (G - 2) [be sf] [] 0 nilS [] la w' := by simpa only [Nat.sub_sub, Nat.reduceAdd, List.length_nil, List.nil_append, List.cons_append] using h
  rw [show ([be sf] : List Nat) = [be (padA sf)] from by rw [padA_be]] at h
  refine Play.step (stepY_push01 0 0 h R.hard R.code R.fd rfl R.len (by simp) (by omega) (by omega) (by omega) (Nat.zero_le _) (Nat.zero_le _) rfl) fun w' h => ?_
  replace h : StF wB c fbB E 0 fb 0 1 cap fs0 2 (G - 4) [be (padA sf), 0] [] 0 nilS [] la w' := by simpa only [Nat.sub_sub, Nat.reduceAdd, List.length_nil, List.nil_append, List.cons_append] using h
  have g0 : growC 0 (0 + 32) = 3 := by decide
  refine Play.step (stepY_mstore1 (ns := []) 0 (padA sf) h R.hard R.code R.fd rfl R.len (by simp) (by omega) (by omega) (by omega) (Nat.zero_le _) (Nat.zero_le _) (padA_len R.sl) (padA_small hs1) (by omega)) fun w' h => ?_
  rw [g0, show max 0 (wds (0 + 32)) = 1 from rfl, show wrB (growB [] (0 + 32)) 0 (padA sf) = (padA sf) from (mem_app (i := 0) (mem := []) (bs := (padA sf)) rfl (padA_len R.sl))] at h
  replace h : StF wB c fbB E 0 fb 0 1 cap fs0 3 (G - 10) [] (padA sf) 1 nilS [] la w' := by simpa only [Nat.sub_sub, Nat.reduceAdd, List.length_nil, List.nil_append, List.cons_append] using h
  refine Play.step (stepY_caller1 cl 0 h R.hard R.code R.fd rfl R.len (by simp) (by omega) (by omega) (by omega) (Nat.zero_le _) (Nat.zero_le _) hcaller R.cl hs2) fun w' h => ?_
  replace h : StF wB c fbB E 0 fb 0 1 cap fs0 4 (G - 12) [be cl] (padA sf) 1 nilS [] la w' := by simpa only [Nat.sub_sub, Nat.reduceAdd, List.length_nil, List.nil_append, List.cons_append] using h
  rw [show ([be cl] : List Nat) = [be (padA cl)] from by rw [padA_be]] at h
  refine Play.step (stepY_push11 32 0 h R.hard R.code R.fd rfl R.len (by simp) (by omega) (by omega) (by omega) (Nat.zero_le _) (Nat.zero_le _) rfl) fun w' h => ?_
  replace h : StF wB c fbB E 0 fb 0 1 cap fs0 6 (G - 15) [be (padA cl), 32] (padA sf) 1 nilS [] la w' := by simpa only [Nat.sub_sub, Nat.reduceAdd, List.length_nil, List.nil_append, List.cons_append] using h
  have g1 : growC 1 (32 + 32) = 3 := by decide
  refine Play.step (stepY_mstore1 (ns := []) 32 (padA cl) h R.hard R.code R.fd rfl R.len (by simp) (by omega) (by omega) (by omega) (Nat.zero_le _) (Nat.zero_le _) (padA_len R.cl) (padA_small hs2) (by omega)) fun w' h => ?_
  rw [g1, show max 1 (wds (32 + 32)) = 2 from rfl, show wrB (growB (padA sf) (32 + 32)) 32 (padA cl) = (padA sf ++ padA cl) from (mem_app (i := 1) (mem := (padA sf)) (bs := (padA cl)) (padA_len R.sl) (padA_len R.cl))] at h
  replace h : StF wB c fbB E 0 fb 0 1 cap fs0 7 (G - 21) [] (padA sf ++ padA cl) 2 nilS [] la w' := by simpa only [Nat.sub_sub, Nat.reduceAdd, List.length_nil, List.nil_append, List.cons_append] using h
  refine Play.step (stepY_callvalue1 V vv 0 h R.hard R.code R.fd rfl R.len (by simp) (by omega) (by omega) (by omega) (Nat.zero_le _) (Nat.zero_le _) h5 hvv) fun w' h => ?_
  replace h : StF wB c fbB E 0 fb 0 1 cap fs0 8 (G - 23) [V] (padA sf ++ padA cl) 2 nilS [] la w' := by simpa only [Nat.sub_sub, Nat.reduceAdd, List.length_nil, List.nil_append, List.cons_append] using h
  rw [show ([V] : List Nat) = [be (padN V)] from by rw [padN_be]] at h
  refine Play.step (stepY_push11 64 0 h R.hard R.code R.fd rfl R.len (by simp) (by omega) (by omega) (by omega) (Nat.zero_le _) (Nat.zero_le _) rfl) fun w' h => ?_
  replace h : StF wB c fbB E 0 fb 0 1 cap fs0 10 (G - 26) [be (padN V), 64] (padA sf ++ padA cl) 2 nilS [] la w' := by simpa only [Nat.sub_sub, Nat.reduceAdd, List.length_nil, List.nil_append, List.cons_append] using h
  have g2 : growC 2 (64 + 32) = 3 := by decide
  refine Play.step (stepY_mstore1 (ns := []) 64 (padN V) h R.hard R.code R.fd rfl R.len (by simp) (by omega) (by omega) (by omega) (Nat.zero_le _) (Nat.zero_le _) rfl (padN_small hV) (by omega)) fun w' h => ?_
  rw [g2, show max 2 (wds (64 + 32)) = 3 from rfl, show wrB (growB (padA sf ++ padA cl) (64 + 32)) 64 (padN V) = (padA sf ++ padA cl ++ padN V) from (mem_app (i := 2) (mem := (padA sf ++ padA cl)) (bs := (padN V)) (by rw [List.length_append, padA_len R.sl, padA_len R.cl]) rfl)] at h
  replace h : StF wB c fbB E 0 fb 0 1 cap fs0 11 (G - 32) [] (padA sf ++ padA cl ++ padN V) 3 nilS [] la w' := by simpa only [Nat.sub_sub, Nat.reduceAdd, List.length_nil, List.nil_append, List.cons_append] using h
  refine Play.step (stepY_origin1 0 h R.hard R.code R.fd rfl R.len (by simp) (by omega) (by omega) (by omega) (Nat.zero_le _) (Nat.zero_le _)) fun w' h => ?_
  replace h : StF wB c fbB E 0 fb 0 1 cap fs0 12 (G - 34) [be (ad 240)] (padA sf ++ padA cl ++ padN V) 3 nilS [] la w' := by simpa only [Nat.sub_sub, Nat.reduceAdd, List.length_nil, List.nil_append, List.cons_append] using h
  rw [show ([be (ad 240)] : List Nat) = [be (padA (ad 240))] from by rw [padA_be]] at h
  refine Play.step (stepY_push11 96 0 h R.hard R.code R.fd rfl R.len (by simp) (by omega) (by omega) (by omega) (Nat.zero_le _) (Nat.zero_le _) rfl) fun w' h => ?_
  replace h : StF wB c fbB E 0 fb 0 1 cap fs0 14 (G - 37) [be (padA (ad 240)), 96] (padA sf ++ padA cl ++ padN V) 3 nilS [] la w' := by simpa only [Nat.sub_sub, Nat.reduceAdd, List.length_nil, List.nil_append, List.cons_append] using h
  have g3 : growC 3 (96 + 32) = 3 := by decide
  refine Play.step (stepY_mstore1 (ns := []) 96 (padA (ad 240)) h R.hard R.code R.fd rfl R.len (by simp) (by omega) (by omega) (by omega) (Nat.zero_le _) (Nat.zero_le _) rfl (padA_small smallAd240) (by omega)) fun w' h => ?_
  rw [g3, show max 3 (wds (96 + 32)) = 4 from rfl, show wrB (growB (padA sf ++ padA cl ++ padN V) (96 + 32)) 96 (padA (ad 240)) = (probeM sf cl V) from (mem_app (i := 3) (mem := (padA sf ++ padA cl ++ padN V)) (bs := (padA (ad 240))) (by rw [List.length_append, List.length_append, padA_len R.sl, padA_len R.cl]; rfl) rfl)] at h
  replace h : StF wB c fbB E 0 fb 0 1 cap fs0 15 (G - 43) [] (probeM sf cl V) 4 nilS [] la w' := by simpa only [Nat.sub_sub, Nat.reduceAdd, List.length_nil, List.nil_append, List.cons_append] using h
  refine Play.step (stepY_push11 128 0 h R.hard R.code R.fd rfl R.len (by simp) (by omega) (by omega) (by omega) (Nat.zero_le _) (Nat.zero_le _) rfl) fun w' h => ?_
  replace h : StF wB c fbB E 0 fb 0 1 cap fs0 17 (G - 46) [128] (probeM sf cl V) 4 nilS [] la w' := by simpa only [Nat.sub_sub, Nat.reduceAdd, List.length_nil, List.nil_append, List.cons_append] using h
  refine Play.step (stepY_push01 0 0 h R.hard R.code R.fd rfl R.len (by simp) (by omega) (by omega) (by omega) (Nat.zero_le _) (Nat.zero_le _) rfl) fun w' h => ?_
  replace h : StF wB c fbB E 0 fb 0 1 cap fs0 18 (G - 48) [128, 0] (probeM sf cl V) 4 nilS [] la w' := by simpa only [Nat.sub_sub, Nat.reduceAdd, List.length_nil, List.nil_append, List.cons_append] using h
  exact k w' h
theorem probe_run2 {wB : World} {c fbB : Nat} {E : XEnv} {fb cap : Nat} {fs0 : Array Value} {G : Nat} {la : List (List Nat)} {w : World} {cv vv : Value} {sf cl : List Nat} {sb : Bool} {V j : Nat} {Q : World → Prop} (R : RunY wB c fbB 60 sb cv probeL fs0 sf cl) (hs1 : Small sf) (hs2 : Small cl) (h5 : fs0[60 + 5]? = some vv) (hvv : NumV wB vv V) (hV : V < 256) (hG1 : 1000 ≤ G) (hG2 : G ≤ 300000) (h : StF wB c fbB E 0 fb 60 2 cap fs0 0 G [] [] 0 nilS [] la w) (k : ∀ w', StF wB c fbB E 0 fb 60 2 cap fs0 18 (G - 48) [128, 0] (probeM sf cl V) 4 nilS [] la w' → Play c Q j w') : Play c Q (j + 14) w := by
  have hself := ext_cell R.se R.sl
  have hcaller := ext_cell R.ca R.cl
  replace h : StF wB c fbB E 0 fb 60 2 cap fs0 0 (G - 0) [] [] 0 nilS [] la w := h
  refine Play.step (stepY_address2 sf 0 h R.hard R.code R.fd rfl R.len (by simp) (by omega) (by omega) (by omega) (Nat.zero_le _) (Nat.zero_le _) hself R.sl hs1) fun w' h => ?_
  replace h : StF wB c fbB E 0 fb 60 2 cap fs0 1 (G - 2) [be sf] [] 0 nilS [] la w' := by simpa only [Nat.sub_sub, Nat.reduceAdd, List.length_nil, List.nil_append, List.cons_append] using h
  rw [show ([be sf] : List Nat) = [be (padA sf)] from by rw [padA_be]] at h
  refine Play.step (stepY_push02 0 0 h R.hard R.code R.fd rfl R.len (by simp) (by omega) (by omega) (by omega) (Nat.zero_le _) (Nat.zero_le _) rfl) fun w' h => ?_
  replace h : StF wB c fbB E 0 fb 60 2 cap fs0 2 (G - 4) [be (padA sf), 0] [] 0 nilS [] la w' := by simpa only [Nat.sub_sub, Nat.reduceAdd, List.length_nil, List.nil_append, List.cons_append] using h
  have g0 : growC 0 (0 + 32) = 3 := by decide
  refine Play.step (stepY_mstore2 (ns := []) 0 (padA sf) h R.hard R.code R.fd rfl R.len (by simp) (by omega) (by omega) (by omega) (Nat.zero_le _) (Nat.zero_le _) (padA_len R.sl) (padA_small hs1) (by omega)) fun w' h => ?_
  rw [g0, show max 0 (wds (0 + 32)) = 1 from rfl, show wrB (growB [] (0 + 32)) 0 (padA sf) = (padA sf) from (mem_app (i := 0) (mem := []) (bs := (padA sf)) rfl (padA_len R.sl))] at h
  replace h : StF wB c fbB E 0 fb 60 2 cap fs0 3 (G - 10) [] (padA sf) 1 nilS [] la w' := by simpa only [Nat.sub_sub, Nat.reduceAdd, List.length_nil, List.nil_append, List.cons_append] using h
  refine Play.step (stepY_caller2 cl 0 h R.hard R.code R.fd rfl R.len (by simp) (by omega) (by omega) (by omega) (Nat.zero_le _) (Nat.zero_le _) hcaller R.cl hs2) fun w' h => ?_
  replace h : StF wB c fbB E 0 fb 60 2 cap fs0 4 (G - 12) [be cl] (padA sf) 1 nilS [] la w' := by simpa only [Nat.sub_sub, Nat.reduceAdd, List.length_nil, List.nil_append, List.cons_append] using h
  rw [show ([be cl] : List Nat) = [be (padA cl)] from by rw [padA_be]] at h
  refine Play.step (stepY_push12 32 0 h R.hard R.code R.fd rfl R.len (by simp) (by omega) (by omega) (by omega) (Nat.zero_le _) (Nat.zero_le _) rfl) fun w' h => ?_
  replace h : StF wB c fbB E 0 fb 60 2 cap fs0 6 (G - 15) [be (padA cl), 32] (padA sf) 1 nilS [] la w' := by simpa only [Nat.sub_sub, Nat.reduceAdd, List.length_nil, List.nil_append, List.cons_append] using h
  have g1 : growC 1 (32 + 32) = 3 := by decide
  refine Play.step (stepY_mstore2 (ns := []) 32 (padA cl) h R.hard R.code R.fd rfl R.len (by simp) (by omega) (by omega) (by omega) (Nat.zero_le _) (Nat.zero_le _) (padA_len R.cl) (padA_small hs2) (by omega)) fun w' h => ?_
  rw [g1, show max 1 (wds (32 + 32)) = 2 from rfl, show wrB (growB (padA sf) (32 + 32)) 32 (padA cl) = (padA sf ++ padA cl) from (mem_app (i := 1) (mem := (padA sf)) (bs := (padA cl)) (padA_len R.sl) (padA_len R.cl))] at h
  replace h : StF wB c fbB E 0 fb 60 2 cap fs0 7 (G - 21) [] (padA sf ++ padA cl) 2 nilS [] la w' := by simpa only [Nat.sub_sub, Nat.reduceAdd, List.length_nil, List.nil_append, List.cons_append] using h
  refine Play.step (stepY_callvalue2 V vv 0 h R.hard R.code R.fd rfl R.len (by simp) (by omega) (by omega) (by omega) (Nat.zero_le _) (Nat.zero_le _) h5 hvv) fun w' h => ?_
  replace h : StF wB c fbB E 0 fb 60 2 cap fs0 8 (G - 23) [V] (padA sf ++ padA cl) 2 nilS [] la w' := by simpa only [Nat.sub_sub, Nat.reduceAdd, List.length_nil, List.nil_append, List.cons_append] using h
  rw [show ([V] : List Nat) = [be (padN V)] from by rw [padN_be]] at h
  refine Play.step (stepY_push12 64 0 h R.hard R.code R.fd rfl R.len (by simp) (by omega) (by omega) (by omega) (Nat.zero_le _) (Nat.zero_le _) rfl) fun w' h => ?_
  replace h : StF wB c fbB E 0 fb 60 2 cap fs0 10 (G - 26) [be (padN V), 64] (padA sf ++ padA cl) 2 nilS [] la w' := by simpa only [Nat.sub_sub, Nat.reduceAdd, List.length_nil, List.nil_append, List.cons_append] using h
  have g2 : growC 2 (64 + 32) = 3 := by decide
  refine Play.step (stepY_mstore2 (ns := []) 64 (padN V) h R.hard R.code R.fd rfl R.len (by simp) (by omega) (by omega) (by omega) (Nat.zero_le _) (Nat.zero_le _) rfl (padN_small hV) (by omega)) fun w' h => ?_
  rw [g2, show max 2 (wds (64 + 32)) = 3 from rfl, show wrB (growB (padA sf ++ padA cl) (64 + 32)) 64 (padN V) = (padA sf ++ padA cl ++ padN V) from (mem_app (i := 2) (mem := (padA sf ++ padA cl)) (bs := (padN V)) (by rw [List.length_append, padA_len R.sl, padA_len R.cl]) rfl)] at h
  replace h : StF wB c fbB E 0 fb 60 2 cap fs0 11 (G - 32) [] (padA sf ++ padA cl ++ padN V) 3 nilS [] la w' := by simpa only [Nat.sub_sub, Nat.reduceAdd, List.length_nil, List.nil_append, List.cons_append] using h
  refine Play.step (stepY_origin2 0 h R.hard R.code R.fd rfl R.len (by simp) (by omega) (by omega) (by omega) (Nat.zero_le _) (Nat.zero_le _)) fun w' h => ?_
  replace h : StF wB c fbB E 0 fb 60 2 cap fs0 12 (G - 34) [be (ad 240)] (padA sf ++ padA cl ++ padN V) 3 nilS [] la w' := by simpa only [Nat.sub_sub, Nat.reduceAdd, List.length_nil, List.nil_append, List.cons_append] using h
  rw [show ([be (ad 240)] : List Nat) = [be (padA (ad 240))] from by rw [padA_be]] at h
  refine Play.step (stepY_push12 96 0 h R.hard R.code R.fd rfl R.len (by simp) (by omega) (by omega) (by omega) (Nat.zero_le _) (Nat.zero_le _) rfl) fun w' h => ?_
  replace h : StF wB c fbB E 0 fb 60 2 cap fs0 14 (G - 37) [be (padA (ad 240)), 96] (padA sf ++ padA cl ++ padN V) 3 nilS [] la w' := by simpa only [Nat.sub_sub, Nat.reduceAdd, List.length_nil, List.nil_append, List.cons_append] using h
  have g3 : growC 3 (96 + 32) = 3 := by decide
  refine Play.step (stepY_mstore2 (ns := []) 96 (padA (ad 240)) h R.hard R.code R.fd rfl R.len (by simp) (by omega) (by omega) (by omega) (Nat.zero_le _) (Nat.zero_le _) rfl (padA_small smallAd240) (by omega)) fun w' h => ?_
  rw [g3, show max 3 (wds (96 + 32)) = 4 from rfl, show wrB (growB (padA sf ++ padA cl ++ padN V) (96 + 32)) 96 (padA (ad 240)) = (probeM sf cl V) from (mem_app (i := 3) (mem := (padA sf ++ padA cl ++ padN V)) (bs := (padA (ad 240))) (by rw [List.length_append, List.length_append, padA_len R.sl, padA_len R.cl]; rfl) rfl)] at h
  replace h : StF wB c fbB E 0 fb 60 2 cap fs0 15 (G - 43) [] (probeM sf cl V) 4 nilS [] la w' := by simpa only [Nat.sub_sub, Nat.reduceAdd, List.length_nil, List.nil_append, List.cons_append] using h
  refine Play.step (stepY_push12 128 0 h R.hard R.code R.fd rfl R.len (by simp) (by omega) (by omega) (by omega) (Nat.zero_le _) (Nat.zero_le _) rfl) fun w' h => ?_
  replace h : StF wB c fbB E 0 fb 60 2 cap fs0 17 (G - 46) [128] (probeM sf cl V) 4 nilS [] la w' := by simpa only [Nat.sub_sub, Nat.reduceAdd, List.length_nil, List.nil_append, List.cons_append] using h
  refine Play.step (stepY_push02 0 0 h R.hard R.code R.fd rfl R.len (by simp) (by omega) (by omega) (by omega) (Nat.zero_le _) (Nat.zero_le _) rfl) fun w' h => ?_
  replace h : StF wB c fbB E 0 fb 60 2 cap fs0 18 (G - 48) [128, 0] (probeM sf cl V) 4 nilS [] la w' := by simpa only [Nat.sub_sub, Nat.reduceAdd, List.length_nil, List.nil_append, List.cons_append] using h
  exact k w' h
theorem probe_run3 {wB : World} {c fbB : Nat} {E : XEnv} {fb cap : Nat} {fs0 : Array Value} {G : Nat} {la : List (List Nat)} {w : World} {cv vv : Value} {sf cl : List Nat} {sb : Bool} {V j : Nat} {Q : World → Prop} (R : RunY wB c fbB 120 sb cv probeL fs0 sf cl) (hs1 : Small sf) (hs2 : Small cl) (h5 : fs0[120 + 5]? = some vv) (hvv : NumV wB vv V) (hV : V < 256) (hG1 : 1000 ≤ G) (hG2 : G ≤ 300000) (h : StF wB c fbB E 0 fb 120 3 cap fs0 0 G [] [] 0 nilS [] la w) (k : ∀ w', StF wB c fbB E 0 fb 120 3 cap fs0 18 (G - 48) [128, 0] (probeM sf cl V) 4 nilS [] la w' → Play c Q j w') : Play c Q (j + 14) w := by
  have hself := ext_cell R.se R.sl
  have hcaller := ext_cell R.ca R.cl
  replace h : StF wB c fbB E 0 fb 120 3 cap fs0 0 (G - 0) [] [] 0 nilS [] la w := h
  refine Play.step (stepY_address3 sf 0 h R.hard R.code R.fd rfl R.len (by simp) (by omega) (by omega) (by omega) (Nat.zero_le _) (Nat.zero_le _) hself R.sl hs1) fun w' h => ?_
  replace h : StF wB c fbB E 0 fb 120 3 cap fs0 1 (G - 2) [be sf] [] 0 nilS [] la w' := by simpa only [Nat.sub_sub, Nat.reduceAdd, List.length_nil, List.nil_append, List.cons_append] using h
  rw [show ([be sf] : List Nat) = [be (padA sf)] from by rw [padA_be]] at h
  refine Play.step (stepY_push03 0 0 h R.hard R.code R.fd rfl R.len (by simp) (by omega) (by omega) (by omega) (Nat.zero_le _) (Nat.zero_le _) rfl) fun w' h => ?_
  replace h : StF wB c fbB E 0 fb 120 3 cap fs0 2 (G - 4) [be (padA sf), 0] [] 0 nilS [] la w' := by simpa only [Nat.sub_sub, Nat.reduceAdd, List.length_nil, List.nil_append, List.cons_append] using h
  have g0 : growC 0 (0 + 32) = 3 := by decide
  refine Play.step (stepY_mstore3 (ns := []) 0 (padA sf) h R.hard R.code R.fd rfl R.len (by simp) (by omega) (by omega) (by omega) (Nat.zero_le _) (Nat.zero_le _) (padA_len R.sl) (padA_small hs1) (by omega)) fun w' h => ?_
  rw [g0, show max 0 (wds (0 + 32)) = 1 from rfl, show wrB (growB [] (0 + 32)) 0 (padA sf) = (padA sf) from (mem_app (i := 0) (mem := []) (bs := (padA sf)) rfl (padA_len R.sl))] at h
  replace h : StF wB c fbB E 0 fb 120 3 cap fs0 3 (G - 10) [] (padA sf) 1 nilS [] la w' := by simpa only [Nat.sub_sub, Nat.reduceAdd, List.length_nil, List.nil_append, List.cons_append] using h
  refine Play.step (stepY_caller3 cl 0 h R.hard R.code R.fd rfl R.len (by simp) (by omega) (by omega) (by omega) (Nat.zero_le _) (Nat.zero_le _) hcaller R.cl hs2) fun w' h => ?_
  replace h : StF wB c fbB E 0 fb 120 3 cap fs0 4 (G - 12) [be cl] (padA sf) 1 nilS [] la w' := by simpa only [Nat.sub_sub, Nat.reduceAdd, List.length_nil, List.nil_append, List.cons_append] using h
  rw [show ([be cl] : List Nat) = [be (padA cl)] from by rw [padA_be]] at h
  refine Play.step (stepY_push13 32 0 h R.hard R.code R.fd rfl R.len (by simp) (by omega) (by omega) (by omega) (Nat.zero_le _) (Nat.zero_le _) rfl) fun w' h => ?_
  replace h : StF wB c fbB E 0 fb 120 3 cap fs0 6 (G - 15) [be (padA cl), 32] (padA sf) 1 nilS [] la w' := by simpa only [Nat.sub_sub, Nat.reduceAdd, List.length_nil, List.nil_append, List.cons_append] using h
  have g1 : growC 1 (32 + 32) = 3 := by decide
  refine Play.step (stepY_mstore3 (ns := []) 32 (padA cl) h R.hard R.code R.fd rfl R.len (by simp) (by omega) (by omega) (by omega) (Nat.zero_le _) (Nat.zero_le _) (padA_len R.cl) (padA_small hs2) (by omega)) fun w' h => ?_
  rw [g1, show max 1 (wds (32 + 32)) = 2 from rfl, show wrB (growB (padA sf) (32 + 32)) 32 (padA cl) = (padA sf ++ padA cl) from (mem_app (i := 1) (mem := (padA sf)) (bs := (padA cl)) (padA_len R.sl) (padA_len R.cl))] at h
  replace h : StF wB c fbB E 0 fb 120 3 cap fs0 7 (G - 21) [] (padA sf ++ padA cl) 2 nilS [] la w' := by simpa only [Nat.sub_sub, Nat.reduceAdd, List.length_nil, List.nil_append, List.cons_append] using h
  refine Play.step (stepY_callvalue3 V vv 0 h R.hard R.code R.fd rfl R.len (by simp) (by omega) (by omega) (by omega) (Nat.zero_le _) (Nat.zero_le _) h5 hvv) fun w' h => ?_
  replace h : StF wB c fbB E 0 fb 120 3 cap fs0 8 (G - 23) [V] (padA sf ++ padA cl) 2 nilS [] la w' := by simpa only [Nat.sub_sub, Nat.reduceAdd, List.length_nil, List.nil_append, List.cons_append] using h
  rw [show ([V] : List Nat) = [be (padN V)] from by rw [padN_be]] at h
  refine Play.step (stepY_push13 64 0 h R.hard R.code R.fd rfl R.len (by simp) (by omega) (by omega) (by omega) (Nat.zero_le _) (Nat.zero_le _) rfl) fun w' h => ?_
  replace h : StF wB c fbB E 0 fb 120 3 cap fs0 10 (G - 26) [be (padN V), 64] (padA sf ++ padA cl) 2 nilS [] la w' := by simpa only [Nat.sub_sub, Nat.reduceAdd, List.length_nil, List.nil_append, List.cons_append] using h
  have g2 : growC 2 (64 + 32) = 3 := by decide
  refine Play.step (stepY_mstore3 (ns := []) 64 (padN V) h R.hard R.code R.fd rfl R.len (by simp) (by omega) (by omega) (by omega) (Nat.zero_le _) (Nat.zero_le _) rfl (padN_small hV) (by omega)) fun w' h => ?_
  rw [g2, show max 2 (wds (64 + 32)) = 3 from rfl, show wrB (growB (padA sf ++ padA cl) (64 + 32)) 64 (padN V) = (padA sf ++ padA cl ++ padN V) from (mem_app (i := 2) (mem := (padA sf ++ padA cl)) (bs := (padN V)) (by rw [List.length_append, padA_len R.sl, padA_len R.cl]) rfl)] at h
  replace h : StF wB c fbB E 0 fb 120 3 cap fs0 11 (G - 32) [] (padA sf ++ padA cl ++ padN V) 3 nilS [] la w' := by simpa only [Nat.sub_sub, Nat.reduceAdd, List.length_nil, List.nil_append, List.cons_append] using h
  refine Play.step (stepY_origin3 0 h R.hard R.code R.fd rfl R.len (by simp) (by omega) (by omega) (by omega) (Nat.zero_le _) (Nat.zero_le _)) fun w' h => ?_
  replace h : StF wB c fbB E 0 fb 120 3 cap fs0 12 (G - 34) [be (ad 240)] (padA sf ++ padA cl ++ padN V) 3 nilS [] la w' := by simpa only [Nat.sub_sub, Nat.reduceAdd, List.length_nil, List.nil_append, List.cons_append] using h
  rw [show ([be (ad 240)] : List Nat) = [be (padA (ad 240))] from by rw [padA_be]] at h
  refine Play.step (stepY_push13 96 0 h R.hard R.code R.fd rfl R.len (by simp) (by omega) (by omega) (by omega) (Nat.zero_le _) (Nat.zero_le _) rfl) fun w' h => ?_
  replace h : StF wB c fbB E 0 fb 120 3 cap fs0 14 (G - 37) [be (padA (ad 240)), 96] (padA sf ++ padA cl ++ padN V) 3 nilS [] la w' := by simpa only [Nat.sub_sub, Nat.reduceAdd, List.length_nil, List.nil_append, List.cons_append] using h
  have g3 : growC 3 (96 + 32) = 3 := by decide
  refine Play.step (stepY_mstore3 (ns := []) 96 (padA (ad 240)) h R.hard R.code R.fd rfl R.len (by simp) (by omega) (by omega) (by omega) (Nat.zero_le _) (Nat.zero_le _) rfl (padA_small smallAd240) (by omega)) fun w' h => ?_
  rw [g3, show max 3 (wds (96 + 32)) = 4 from rfl, show wrB (growB (padA sf ++ padA cl ++ padN V) (96 + 32)) 96 (padA (ad 240)) = (probeM sf cl V) from (mem_app (i := 3) (mem := (padA sf ++ padA cl ++ padN V)) (bs := (padA (ad 240))) (by rw [List.length_append, List.length_append, padA_len R.sl, padA_len R.cl]; rfl) rfl)] at h
  replace h : StF wB c fbB E 0 fb 120 3 cap fs0 15 (G - 43) [] (probeM sf cl V) 4 nilS [] la w' := by simpa only [Nat.sub_sub, Nat.reduceAdd, List.length_nil, List.nil_append, List.cons_append] using h
  refine Play.step (stepY_push13 128 0 h R.hard R.code R.fd rfl R.len (by simp) (by omega) (by omega) (by omega) (Nat.zero_le _) (Nat.zero_le _) rfl) fun w' h => ?_
  replace h : StF wB c fbB E 0 fb 120 3 cap fs0 17 (G - 46) [128] (probeM sf cl V) 4 nilS [] la w' := by simpa only [Nat.sub_sub, Nat.reduceAdd, List.length_nil, List.nil_append, List.cons_append] using h
  refine Play.step (stepY_push03 0 0 h R.hard R.code R.fd rfl R.len (by simp) (by omega) (by omega) (by omega) (Nat.zero_le _) (Nat.zero_le _) rfl) fun w' h => ?_
  replace h : StF wB c fbB E 0 fb 120 3 cap fs0 18 (G - 48) [128, 0] (probeM sf cl V) 4 nilS [] la w' := by simpa only [Nat.sub_sub, Nat.reduceAdd, List.length_nil, List.nil_append, List.cons_append] using h
  exact k w' h
theorem back_run1 {wB : World} {c fbB : Nat} {E : XEnv} {fb cap : Nat} {fs0 : Array Value} {m G : Nat} {la : List (List Nat)} {w : World} {cv : Value} {ds : List Nat} {sf cl : List Nat} {sb : Bool} {rt : Value} {rd : List Nat} {rr j : Nat} {Q : World → Prop} (R : RunY wB c fbB 0 sb cv ds fs0 sf cl) (hd : ∀ i, i < 8 → ds[m + i]? = [80, 61, 95, 95, 62, 61, 95, 243][i]?) (hm : m ≤ 800) (hrd : rd.length = 128) (hG1 : 1000 ≤ G) (hG2 : G ≤ 300000) (h : StF wB c fbB E rr fb 0 1 cap fs0 m G [1] [] 0 rt rd la w) (k : ∀ w', StF wB c fbB E 0 fb 0 1 cap fs0 (m + 7) (G - 39) [128, 0] rd 4 rt rd la w' → Play c Q j w') : Play c Q (j + 7) w := by
  have d0 := hd 0 (by decide)
  have d1 := hd 1 (by decide)
  have d2 := hd 2 (by decide)
  have d3 := hd 3 (by decide)
  have d4 := hd 4 (by decide)
  have d5 := hd 5 (by decide)
  have d6 := hd 6 (by decide)
  refine Play.step (stepY_pop1 (ns := []) 1 h R.hard R.code R.fd d0 R.len (by simp) (by omega) (by omega) (by omega) (Nat.zero_le _)) fun w' h => ?_
  refine Play.step (stepY_returndatasize1 0 h R.hard R.code R.fd d1 R.len (by simp) (by omega) (by omega) (by omega) (Nat.zero_le _) (Nat.zero_le _) (by omega)) fun w' h => ?_
  refine Play.step (stepY_push01 0 0 h R.hard R.code R.fd d2 R.len (by simp) (by omega) (by omega) (by omega) (Nat.zero_le _) (Nat.zero_le _) (by simp [cutB, be])) fun w' h => ?_
  refine Play.step (stepY_push01 0 0 h R.hard R.code R.fd d3 R.len (by simp) (by omega) (by omega) (by omega) (Nat.zero_le _) (Nat.zero_le _) (by simp [cutB, be])) fun w' h => ?_
  replace h : StF wB c fbB E 0 fb 0 1 cap fs0 (m + 4) (G - 8) [128, 0, 0] [] 0 rt rd la w' := by
    rw [hrd] at h
    simpa only [Nat.sub_sub, Nat.add_assoc, Nat.reduceAdd, Nat.reduceMul, List.length_nil, List.nil_append, List.cons_append] using h
  have g1 : growC 0 (endN 0 128) = 12 := by decide
  have g2 : wds 128 = 4 := by decide
  refine Play.step (stepY_returndatacopy1 (ns := []) 128 0 0 h R.hard R.code R.fd d4 R.len (by simp) (by omega) (by omega) (by omega) (Nat.zero_le _) (Nat.zero_le _) (by omega) (by omega) (by omega) (by omega) (by omega)) fun w' h => ?_
  have e1 : wrB (growB [] (endN 0 128)) 0 (cutB rd 0 128) = rd := by
    rw [cutB_whole hrd]
    exact wrB_over (by rw [hrd]; rfl)
  rw [e1, g1, g2, show max 0 (wds (endN 0 128)) = 4 from rfl] at h
  refine Play.step (stepY_returndatasize1 0 h R.hard R.code R.fd d5 R.len (by simp) (by omega) (by omega) (by omega) (Nat.zero_le _) (Nat.zero_le _) (by omega)) fun w' h => ?_
  refine Play.step (stepY_push01 0 0 h R.hard R.code R.fd d6 R.len (by simp) (by omega) (by omega) (by omega) (Nat.zero_le _) (Nat.zero_le _) (by simp [cutB, be])) fun w' h => ?_
  refine k w' ?_
  rw [hrd] at h
  simpa only [Nat.sub_sub, Nat.add_assoc, Nat.reduceAdd, Nat.reduceMul, List.length_nil, List.nil_append, List.cons_append] using h
theorem back_run2 {wB : World} {c fbB : Nat} {E : XEnv} {fb cap : Nat} {fs0 : Array Value} {m G : Nat} {la : List (List Nat)} {w : World} {cv : Value} {ds : List Nat} {sf cl : List Nat} {sb : Bool} {rt : Value} {rd : List Nat} {rr j : Nat} {Q : World → Prop} (R : RunY wB c fbB 60 sb cv ds fs0 sf cl) (hd : ∀ i, i < 8 → ds[m + i]? = [80, 61, 95, 95, 62, 61, 95, 243][i]?) (hm : m ≤ 800) (hrd : rd.length = 128) (hG1 : 1000 ≤ G) (hG2 : G ≤ 300000) (h : StF wB c fbB E rr fb 60 2 cap fs0 m G [1] [] 0 rt rd la w) (k : ∀ w', StF wB c fbB E 0 fb 60 2 cap fs0 (m + 7) (G - 39) [128, 0] rd 4 rt rd la w' → Play c Q j w') : Play c Q (j + 7) w := by
  have d0 := hd 0 (by decide)
  have d1 := hd 1 (by decide)
  have d2 := hd 2 (by decide)
  have d3 := hd 3 (by decide)
  have d4 := hd 4 (by decide)
  have d5 := hd 5 (by decide)
  have d6 := hd 6 (by decide)
  refine Play.step (stepY_pop2 (ns := []) 1 h R.hard R.code R.fd d0 R.len (by simp) (by omega) (by omega) (by omega) (Nat.zero_le _)) fun w' h => ?_
  refine Play.step (stepY_returndatasize2 0 h R.hard R.code R.fd d1 R.len (by simp) (by omega) (by omega) (by omega) (Nat.zero_le _) (Nat.zero_le _) (by omega)) fun w' h => ?_
  refine Play.step (stepY_push02 0 0 h R.hard R.code R.fd d2 R.len (by simp) (by omega) (by omega) (by omega) (Nat.zero_le _) (Nat.zero_le _) (by simp [cutB, be])) fun w' h => ?_
  refine Play.step (stepY_push02 0 0 h R.hard R.code R.fd d3 R.len (by simp) (by omega) (by omega) (by omega) (Nat.zero_le _) (Nat.zero_le _) (by simp [cutB, be])) fun w' h => ?_
  replace h : StF wB c fbB E 0 fb 60 2 cap fs0 (m + 4) (G - 8) [128, 0, 0] [] 0 rt rd la w' := by
    rw [hrd] at h
    simpa only [Nat.sub_sub, Nat.add_assoc, Nat.reduceAdd, Nat.reduceMul, List.length_nil, List.nil_append, List.cons_append] using h
  have g1 : growC 0 (endN 0 128) = 12 := by decide
  have g2 : wds 128 = 4 := by decide
  refine Play.step (stepY_returndatacopy2 (ns := []) 128 0 0 h R.hard R.code R.fd d4 R.len (by simp) (by omega) (by omega) (by omega) (Nat.zero_le _) (Nat.zero_le _) (by omega) (by omega) (by omega) (by omega) (by omega)) fun w' h => ?_
  have e1 : wrB (growB [] (endN 0 128)) 0 (cutB rd 0 128) = rd := by
    rw [cutB_whole hrd]
    exact wrB_over (by rw [hrd]; rfl)
  rw [e1, g1, g2, show max 0 (wds (endN 0 128)) = 4 from rfl] at h
  refine Play.step (stepY_returndatasize2 0 h R.hard R.code R.fd d5 R.len (by simp) (by omega) (by omega) (by omega) (Nat.zero_le _) (Nat.zero_le _) (by omega)) fun w' h => ?_
  refine Play.step (stepY_push02 0 0 h R.hard R.code R.fd d6 R.len (by simp) (by omega) (by omega) (by omega) (Nat.zero_le _) (Nat.zero_le _) (by simp [cutB, be])) fun w' h => ?_
  refine k w' ?_
  rw [hrd] at h
  simpa only [Nat.sub_sub, Nat.add_assoc, Nat.reduceAdd, Nat.reduceMul, List.length_nil, List.nil_append, List.cons_append] using h
end Go.Proofs.YgcsalGreat

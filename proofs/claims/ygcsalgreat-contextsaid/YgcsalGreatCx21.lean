/-
  Runs of Context: kinds 0 to 5, behind Begin.
-/
import Derived.Test.YgcsalGreatCx20
set_option linter.unusedSimpArgs false
set_option linter.unusedVariables false
namespace Go.Own
open Go.Proofs.YgcsalGreat
/-- What is known behind Begin. -/
structure BegY (w0 w : World) (c fb cap : Nat) (E : XEnv) (cur : Array Value) (gv fv cw iu a0 a1 a3 a6 : Value) (t v : Nat) (ds : List Nat) (la : List (List Nat)) (D : List AD) (T : Nat) : Prop where
  ch : ChY w c E (.slice (some ⟨fb, 0, none⟩) 1 cap) nilS la
  row : w.heap[fb]? = some (.cells cur 142 (0, 0))
  inn : ∀ k, k < 60 → cur[0 + k]? = (frG 0 false gv fv cw iu (ad t) (ad 240) (wrow5 a0 a1 a3 a6))[k]?
  size : cur.size = cap * 60
  capM : cap ≤ maxLen
  cap1 : 1 ≤ cap
  one : a0.oneCell' = true ∧ a1.oneCell' = true ∧ a3.oneCell' = true ∧ a6.oneCell' = true
  ngv : NumV w gv 179000
  nfv : NumV w fv v
  ncw : NatV w cw ds
  niu : NatV w iu []
  acc : AccD D w E.vz
  env : EnvD w E T
  bas : Bas w0 c fb w
theorem ns_small {ns : List Nat} (h : ∀ N ∈ ns, N ≤ 1000000) : ∀ N ∈ ns, N < 256 ^ 32 := fun N hN => Nat.lt_of_le_of_lt (h N hN) (by decide)
def fwdC (v t : Nat) : List Nat := [95, 95, 95, 95, 96, v, 96, t, 90, 241, 80, 61, 95, 95, 62, 61, 95, 243]
def fwdO (t o : Nat) : List Nat := [95, 95, 95, 95, 96, t, 90, o, 80, 61, 95, 95, 62, 61, 95, 243]
theorem frG_cells {cur : Array Value} {q kd s t : Nat} {sb : Bool} {gv vv cu iu a0 a1 a3 a6 : Value} (h : ∀ k, k < 60 → cur[q + k]? = (frG kd sb gv vv cu iu (ad s) (ad t) (wrow5 a0 a1 a3 a6))[k]?) (h1 : gv.oneCell' = true) (h2 : vv.oneCell' = true) (h3 : cu.oneCell' = true) (h4 : iu.oneCell' = true) (ho : a0.oneCell' = true ∧ a1.oneCell' = true ∧ a3.oneCell' = true ∧ a6.oneCell' = true) : ∀ k u, k < 60 → cur[q + k]? = some u → u.oneCell' = true := by
  intro k u hk hu
  rw [h k hk] at hu
  refine frG_one (kd := kd) (s := s) (t := t) (sb := sb) h1 h2 h3 h4 ho.1 ho.2.1 ho.2.2.1 ho.2.2.2 u ?_
  simpa using List.mem_of_getElem? hu
end Go.Own
namespace Go.Proofs.YgcsalGreat
open Go.RowKit Go.Own
theorem _root_.Go.Own.CallY.kept {n : Nat} {w w' : World} {c fb cap : Nat} {E : XEnv} {cur fs0 : Array Value} {pv gv sv r7 cw sg vx iu a0 a1 a3 a6 : Value} {m G1 G2 kd sf cl : Nat} {sb : Bool} {ds : List Nat} {la : List (List Nat)} {D : List AD} (h : CallY n w c fb cap E cur fs0 pv gv sv r7 cw sg vx iu a0 a1 a3 a6 m G1 G2 kd sf cl sb ds la D) (K : Kept [] w w') : CallY n w' c fb cap E cur fs0 pv gv sv r7 cw sg vx iu a0 a1 a3 a6 m G1 G2 kd sf cl sb ds la D :=
  { h with ch := h.ch.kept K, row := K.row h.row (by simp), parts := h.parts.kept K, n7 := h.n7.kept K, nsg := h.nsg.kept K, ncw := h.ncw.kept K, niu := h.niu.kept K, acc := (AccD.still D) _ _ _ _ h.acc K (hard_nil w) }
theorem _root_.Go.Own.BegY.kept {w0 w w' : World} {c fb cap : Nat} {E : XEnv} {cur : Array Value} {gv fv cw iu a0 a1 a3 a6 : Value} {t v : Nat} {ds : List Nat} {la : List (List Nat)} {D : List AD} {T : Nat} (h : BegY w0 w c fb cap E cur gv fv cw iu a0 a1 a3 a6 t v ds la D T) (K : Kept [] w w') : BegY w0 w' c fb cap E cur gv fv cw iu a0 a1 a3 a6 t v ds la D T :=
  { h with ch := h.ch.kept K, row := K.row h.row (by simp), ngv := h.ngv.kept K, nfv := h.nfv.kept K, ncw := h.ncw.kept K, niu := h.niu.kept K, acc := (AccD.still D) _ _ _ _ h.acc K (hard_nil w), env := h.env.keptN K (hard_nil w), bas := ⟨h.bas.k.trans (K.mono (by simp)), h.bas.f⟩ }
theorem callY_one {n : Nat} {w : World} {c fb cap : Nat} {E : XEnv} {cur fs0 : Array Value} {pv gv sv r7 cw sg vx iu a0 a1 a3 a6 : Value} {m G1 G2 kd sf cl : Nat} {sb : Bool} {ds : List Nat} {la : List (List Nat)} {D : List AD} (h : CallY n w c fb cap E cur fs0 pv gv sv r7 cw sg vx iu a0 a1 a3 a6 m G1 G2 kd sf cl sb ds la D) : ∀ k u, k < 60 → cur[60 * n + k]? = some u → u.oneCell' = true := frG_cells h.inn h.nsg.one h.vone h.ncw.one h.niu.one h.one
theorem callY_pone {n : Nat} {w : World} {c fb cap : Nat} {E : XEnv} {cur fs0 : Array Value} {pv gv sv r7 cw sg vx iu a0 a1 a3 a6 : Value} {m G1 G2 kd sf cl : Nat} {sb : Bool} {ds : List Nat} {la : List (List Nat)} {D : List AD} (h : CallY n w c fb cap E cur fs0 pv gv sv r7 cw sg vx iu a0 a1 a3 a6 m G1 G2 kd sf cl sb ds la D) (hn : 1 ≤ n) (h0 : ∀ k u, k < 60 → fs0[60 * (n - 1) + k]? = some u → u.oneCell' = true) : ∀ k u, k < 60 → cur[60 * (n - 1) + k]? = some u → u.oneCell' = true := by
  intro k u hk hu
  by_cases k3 : k = 3
  · subst k3; rw [h.c3] at hu; cases hu; exact h.parts.p.one
  by_cases k4 : k = 4
  · subst k4; rw [h.c4] at hu; cases hu; exact h.parts.g.one
  by_cases k6 : k = 6
  · subst k6
    obtain ⟨r6, e1, e2⟩ := h.c6
    rw [e1] at hu; cases hu; exact e2
  by_cases k7 : k = 7
  · subst k7; rw [h.c7] at hu; cases hu; exact h.n7.one
  by_cases k8 : k = 8
  · subst k8; rw [h.c8] at hu; cases hu; exact h.parts.s.one
  by_cases k9 : k = 9
  · subst k9; rw [h.c9] at hu; cases hu; rfl
  rw [h.par _ (by omega) (by omega) (by omega) (by omega) (by omega) (by omega) (by omega)] at hu
  exact h0 k u hk hu
theorem begY_start {w0 w : World} {c fb cap : Nat} {E : XEnv} {cur : Array Value} {gv fv cw iu a0 a1 a3 a6 : Value} {t v : Nat} {ds : List Nat} {la : List (List Nat)} {D : List AD} {T : Nat} (h : BegY w0 w c fb cap E cur gv fv cw iu a0 a1 a3 a6 t v ds la D T) (hl : ds.length ≤ 1000) :
    StF w c fb E 0 fb 0 1 cap cur 0 179000 [] [] 0 nilS [] la w ∧ RunY w c fb 0 false cw ds cur (ad t) (ad 240) := by
  have hz : 0 + 60 ≤ cur.size := by
    have h1 := h.size
    have h2 := h.cap1
    omega
  have e := h.inn
  have hF : FrameQ w fb 0 cur 0 179000 [] nilS := ⟨cur, nilS, gv, nilS, [], h.row, rfl, fun k _ _ _ _ => rfl, by rw [e 3 (by decide)]; rfl, nil_num _, by rw [e 4 (by decide)]; rfl, h.ngv, by rw [e 8 (by decide)]; rfl, .inl ⟨rfl, rfl⟩, ⟨rfl, fun k v n e => by simp at e⟩, by rw [e 9 (by decide)]; rfl⟩
  refine ⟨state_back 0 (Kept.refl _ _) h.ch hF (NatV.nil _), ?_⟩
  have hx := ext_frG hz e
  exact ⟨hard_of h.ch hF, h.ncw, ⟨by rw [e 1 (by decide)]; rfl, by rw [e 2 (by decide)]; rfl, by rw [e 10 (by decide)]; rfl, hz⟩, hl, hx.1, hx.2, rfl, rfl⟩
theorem preC1 {wB : World} {c fbB : Nat} {E : XEnv} {fb cap : Nat} {fs0 : Array Value} {G : Nat} {la : List (List Nat)} {w : World} {cv : Value} {sf cl : List Nat} {sb : Bool} {d kk t v o : Nat} {RR P : World → Prop} (R : RunY wB c fbB 0 sb cv (fwdC v t) fs0 sf cl) (hRR : ∀ w, Kept [c, fbB] wB w → RR w) (h : StF wB c fbB E 0 fb 0 1 cap fs0 0 G [] [] 0 nilS [] la w) (hd : 0 ≠ d) (hG1 : 3000 ≤ G) (hG2 : G ≤ 300000) (ht : t < 256) (hv : v < 256) (k : ∀ w', StF wB c fbB E 0 fb 0 1 cap fs0 9 (G - 16) [0, 0, 0, 0, v, t, G - 16] [] 0 nilS [] la w' → Goes c d RR P kk w') : Goes c d RR P (kk + 7) w := by
  replace h : StF wB c fbB E 0 fb 0 1 cap fs0 0 (G - 0) [] [] 0 nilS [] la w := h
  refine Goes.step1 R hRR h hd (by omega) (by omega) (ns_small (by intro N hN; simp at hN <;> omega)) (by simp) (fun w1 h1 => stepY_push01 0 0 h1 R.hard R.code R.fd rfl R.len (by simp) (by omega) (by omega) (by omega) (Nat.zero_le _) (Nat.zero_le _) rfl) fun w' h => ?_
  replace h : StF wB c fbB E 0 fb 0 1 cap fs0 1 (G - 2) [0] [] 0 nilS [] la w' := by simpa only [Nat.sub_sub, Nat.reduceAdd, List.length_nil, List.nil_append, List.cons_append] using h
  refine Goes.step1 R hRR h hd (by omega) (by omega) (ns_small (by intro N hN; simp at hN <;> omega)) (by simp) (fun w1 h1 => stepY_push01 0 0 h1 R.hard R.code R.fd rfl R.len (by simp) (by omega) (by omega) (by omega) (Nat.zero_le _) (Nat.zero_le _) rfl) fun w' h => ?_
  replace h : StF wB c fbB E 0 fb 0 1 cap fs0 2 (G - 4) [0, 0] [] 0 nilS [] la w' := by simpa only [Nat.sub_sub, Nat.reduceAdd, List.length_nil, List.nil_append, List.cons_append] using h
  refine Goes.step1 R hRR h hd (by omega) (by omega) (ns_small (by intro N hN; simp at hN <;> omega)) (by simp) (fun w1 h1 => stepY_push01 0 0 h1 R.hard R.code R.fd rfl R.len (by simp) (by omega) (by omega) (by omega) (Nat.zero_le _) (Nat.zero_le _) rfl) fun w' h => ?_
  replace h : StF wB c fbB E 0 fb 0 1 cap fs0 3 (G - 6) [0, 0, 0] [] 0 nilS [] la w' := by simpa only [Nat.sub_sub, Nat.reduceAdd, List.length_nil, List.nil_append, List.cons_append] using h
  refine Goes.step1 R hRR h hd (by omega) (by omega) (ns_small (by intro N hN; simp at hN <;> omega)) (by simp) (fun w1 h1 => stepY_push01 0 0 h1 R.hard R.code R.fd rfl R.len (by simp) (by omega) (by omega) (by omega) (Nat.zero_le _) (Nat.zero_le _) rfl) fun w' h => ?_
  replace h : StF wB c fbB E 0 fb 0 1 cap fs0 4 (G - 8) [0, 0, 0, 0] [] 0 nilS [] la w' := by simpa only [Nat.sub_sub, Nat.reduceAdd, List.length_nil, List.nil_append, List.cons_append] using h
  refine Goes.step1 R hRR h hd (by omega) (by omega) (ns_small (by intro N hN; simp at hN <;> omega)) (by simp) (fun w1 h1 => stepY_push11 v 0 h1 R.hard R.code R.fd rfl R.len (by simp) (by omega) (by omega) (by omega) (Nat.zero_le _) (Nat.zero_le _) (by simp [fwdC, cutB, be])) fun w' h => ?_
  replace h : StF wB c fbB E 0 fb 0 1 cap fs0 6 (G - 11) [0, 0, 0, 0, v] [] 0 nilS [] la w' := by simpa only [Nat.sub_sub, Nat.reduceAdd, List.length_nil, List.nil_append, List.cons_append] using h
  refine Goes.step1 R hRR h hd (by omega) (by omega) (ns_small (by intro N hN; simp at hN <;> omega)) (by simp) (fun w1 h1 => stepY_push11 t 0 h1 R.hard R.code R.fd rfl R.len (by simp) (by omega) (by omega) (by omega) (Nat.zero_le _) (Nat.zero_le _) (by simp [fwdC, cutB, be])) fun w' h => ?_
  replace h : StF wB c fbB E 0 fb 0 1 cap fs0 8 (G - 14) [0, 0, 0, 0, v, t] [] 0 nilS [] la w' := by simpa only [Nat.sub_sub, Nat.reduceAdd, List.length_nil, List.nil_append, List.cons_append] using h
  refine Goes.step1 R hRR h hd (by omega) (by omega) (ns_small (by intro N hN; simp at hN <;> omega)) (by simp) (fun w1 h1 => stepY_gas1 0 h1 R.hard R.code R.fd rfl R.len (by simp) (by omega) (by omega) (by omega) (Nat.zero_le _) (Nat.zero_le _)) fun w' h => ?_
  replace h : StF wB c fbB E 0 fb 0 1 cap fs0 9 (G - 16) [0, 0, 0, 0, v, t, G - 16] [] 0 nilS [] la w' := by simpa only [Nat.sub_sub, Nat.reduceAdd, List.length_nil, List.nil_append, List.cons_append] using h
  exact k w' h
theorem preO1 {wB : World} {c fbB : Nat} {E : XEnv} {fb cap : Nat} {fs0 : Array Value} {G : Nat} {la : List (List Nat)} {w : World} {cv : Value} {sf cl : List Nat} {sb : Bool} {d kk t v o : Nat} {RR P : World → Prop} (R : RunY wB c fbB 0 sb cv (fwdO t o) fs0 sf cl) (hRR : ∀ w, Kept [c, fbB] wB w → RR w) (h : StF wB c fbB E 0 fb 0 1 cap fs0 0 G [] [] 0 nilS [] la w) (hd : 0 ≠ d) (hG1 : 3000 ≤ G) (hG2 : G ≤ 300000) (ht : t < 256) (hv : v < 256) (k : ∀ w', StF wB c fbB E 0 fb 0 1 cap fs0 7 (G - 13) [0, 0, 0, 0, t, G - 13] [] 0 nilS [] la w' → Goes c d RR P kk w') : Goes c d RR P (kk + 6) w := by
  replace h : StF wB c fbB E 0 fb 0 1 cap fs0 0 (G - 0) [] [] 0 nilS [] la w := h
  refine Goes.step1 R hRR h hd (by omega) (by omega) (ns_small (by intro N hN; simp at hN <;> omega)) (by simp) (fun w1 h1 => stepY_push01 0 0 h1 R.hard R.code R.fd rfl R.len (by simp) (by omega) (by omega) (by omega) (Nat.zero_le _) (Nat.zero_le _) rfl) fun w' h => ?_
  replace h : StF wB c fbB E 0 fb 0 1 cap fs0 1 (G - 2) [0] [] 0 nilS [] la w' := by simpa only [Nat.sub_sub, Nat.reduceAdd, List.length_nil, List.nil_append, List.cons_append] using h
  refine Goes.step1 R hRR h hd (by omega) (by omega) (ns_small (by intro N hN; simp at hN <;> omega)) (by simp) (fun w1 h1 => stepY_push01 0 0 h1 R.hard R.code R.fd rfl R.len (by simp) (by omega) (by omega) (by omega) (Nat.zero_le _) (Nat.zero_le _) rfl) fun w' h => ?_
  replace h : StF wB c fbB E 0 fb 0 1 cap fs0 2 (G - 4) [0, 0] [] 0 nilS [] la w' := by simpa only [Nat.sub_sub, Nat.reduceAdd, List.length_nil, List.nil_append, List.cons_append] using h
  refine Goes.step1 R hRR h hd (by omega) (by omega) (ns_small (by intro N hN; simp at hN <;> omega)) (by simp) (fun w1 h1 => stepY_push01 0 0 h1 R.hard R.code R.fd rfl R.len (by simp) (by omega) (by omega) (by omega) (Nat.zero_le _) (Nat.zero_le _) rfl) fun w' h => ?_
  replace h : StF wB c fbB E 0 fb 0 1 cap fs0 3 (G - 6) [0, 0, 0] [] 0 nilS [] la w' := by simpa only [Nat.sub_sub, Nat.reduceAdd, List.length_nil, List.nil_append, List.cons_append] using h
  refine Goes.step1 R hRR h hd (by omega) (by omega) (ns_small (by intro N hN; simp at hN <;> omega)) (by simp) (fun w1 h1 => stepY_push01 0 0 h1 R.hard R.code R.fd rfl R.len (by simp) (by omega) (by omega) (by omega) (Nat.zero_le _) (Nat.zero_le _) rfl) fun w' h => ?_
  replace h : StF wB c fbB E 0 fb 0 1 cap fs0 4 (G - 8) [0, 0, 0, 0] [] 0 nilS [] la w' := by simpa only [Nat.sub_sub, Nat.reduceAdd, List.length_nil, List.nil_append, List.cons_append] using h
  refine Goes.step1 R hRR h hd (by omega) (by omega) (ns_small (by intro N hN; simp at hN <;> omega)) (by simp) (fun w1 h1 => stepY_push11 t 0 h1 R.hard R.code R.fd rfl R.len (by simp) (by omega) (by omega) (by omega) (Nat.zero_le _) (Nat.zero_le _) (by simp [fwdO, cutB, be])) fun w' h => ?_
  replace h : StF wB c fbB E 0 fb 0 1 cap fs0 6 (G - 11) [0, 0, 0, 0, t] [] 0 nilS [] la w' := by simpa only [Nat.sub_sub, Nat.reduceAdd, List.length_nil, List.nil_append, List.cons_append] using h
  refine Goes.step1 R hRR h hd (by omega) (by omega) (ns_small (by intro N hN; simp at hN <;> omega)) (by simp) (fun w1 h1 => stepY_gas1 0 h1 R.hard R.code R.fd rfl R.len (by simp) (by omega) (by omega) (by omega) (Nat.zero_le _) (Nat.zero_le _)) fun w' h => ?_
  replace h : StF wB c fbB E 0 fb 0 1 cap fs0 7 (G - 13) [0, 0, 0, 0, t, G - 13] [] 0 nilS [] la w' := by simpa only [Nat.sub_sub, Nat.reduceAdd, List.length_nil, List.nil_append, List.cons_append] using h
  exact k w' h
theorem preC2 {wB : World} {c fbB : Nat} {E : XEnv} {fb cap : Nat} {fs0 : Array Value} {G : Nat} {la : List (List Nat)} {w : World} {cv : Value} {sf cl : List Nat} {sb : Bool} {d kk t v o : Nat} {RR P : World → Prop} (R : RunY wB c fbB 60 sb cv (fwdC v t) fs0 sf cl) (hRR : ∀ w, Kept [c, fbB] wB w → RR w) (h : StF wB c fbB E 0 fb 60 2 cap fs0 0 G [] [] 0 nilS [] la w) (hd : 1 ≠ d) (hG1 : 3000 ≤ G) (hG2 : G ≤ 300000) (ht : t < 256) (hv : v < 256) (k : ∀ w', StF wB c fbB E 0 fb 60 2 cap fs0 9 (G - 16) [0, 0, 0, 0, v, t, G - 16] [] 0 nilS [] la w' → Goes c d RR P kk w') : Goes c d RR P (kk + 7) w := by
  replace h : StF wB c fbB E 0 fb 60 2 cap fs0 0 (G - 0) [] [] 0 nilS [] la w := h
  refine Goes.step2 R hRR h hd (by omega) (by omega) (ns_small (by intro N hN; simp at hN <;> omega)) (by simp) (fun w1 h1 => stepY_push02 0 0 h1 R.hard R.code R.fd rfl R.len (by simp) (by omega) (by omega) (by omega) (Nat.zero_le _) (Nat.zero_le _) rfl) fun w' h => ?_
  replace h : StF wB c fbB E 0 fb 60 2 cap fs0 1 (G - 2) [0] [] 0 nilS [] la w' := by simpa only [Nat.sub_sub, Nat.reduceAdd, List.length_nil, List.nil_append, List.cons_append] using h
  refine Goes.step2 R hRR h hd (by omega) (by omega) (ns_small (by intro N hN; simp at hN <;> omega)) (by simp) (fun w1 h1 => stepY_push02 0 0 h1 R.hard R.code R.fd rfl R.len (by simp) (by omega) (by omega) (by omega) (Nat.zero_le _) (Nat.zero_le _) rfl) fun w' h => ?_
  replace h : StF wB c fbB E 0 fb 60 2 cap fs0 2 (G - 4) [0, 0] [] 0 nilS [] la w' := by simpa only [Nat.sub_sub, Nat.reduceAdd, List.length_nil, List.nil_append, List.cons_append] using h
  refine Goes.step2 R hRR h hd (by omega) (by omega) (ns_small (by intro N hN; simp at hN <;> omega)) (by simp) (fun w1 h1 => stepY_push02 0 0 h1 R.hard R.code R.fd rfl R.len (by simp) (by omega) (by omega) (by omega) (Nat.zero_le _) (Nat.zero_le _) rfl) fun w' h => ?_
  replace h : StF wB c fbB E 0 fb 60 2 cap fs0 3 (G - 6) [0, 0, 0] [] 0 nilS [] la w' := by simpa only [Nat.sub_sub, Nat.reduceAdd, List.length_nil, List.nil_append, List.cons_append] using h
  refine Goes.step2 R hRR h hd (by omega) (by omega) (ns_small (by intro N hN; simp at hN <;> omega)) (by simp) (fun w1 h1 => stepY_push02 0 0 h1 R.hard R.code R.fd rfl R.len (by simp) (by omega) (by omega) (by omega) (Nat.zero_le _) (Nat.zero_le _) rfl) fun w' h => ?_
  replace h : StF wB c fbB E 0 fb 60 2 cap fs0 4 (G - 8) [0, 0, 0, 0] [] 0 nilS [] la w' := by simpa only [Nat.sub_sub, Nat.reduceAdd, List.length_nil, List.nil_append, List.cons_append] using h
  refine Goes.step2 R hRR h hd (by omega) (by omega) (ns_small (by intro N hN; simp at hN <;> omega)) (by simp) (fun w1 h1 => stepY_push12 v 0 h1 R.hard R.code R.fd rfl R.len (by simp) (by omega) (by omega) (by omega) (Nat.zero_le _) (Nat.zero_le _) (by simp [fwdC, cutB, be])) fun w' h => ?_
  replace h : StF wB c fbB E 0 fb 60 2 cap fs0 6 (G - 11) [0, 0, 0, 0, v] [] 0 nilS [] la w' := by simpa only [Nat.sub_sub, Nat.reduceAdd, List.length_nil, List.nil_append, List.cons_append] using h
  refine Goes.step2 R hRR h hd (by omega) (by omega) (ns_small (by intro N hN; simp at hN <;> omega)) (by simp) (fun w1 h1 => stepY_push12 t 0 h1 R.hard R.code R.fd rfl R.len (by simp) (by omega) (by omega) (by omega) (Nat.zero_le _) (Nat.zero_le _) (by simp [fwdC, cutB, be])) fun w' h => ?_
  replace h : StF wB c fbB E 0 fb 60 2 cap fs0 8 (G - 14) [0, 0, 0, 0, v, t] [] 0 nilS [] la w' := by simpa only [Nat.sub_sub, Nat.reduceAdd, List.length_nil, List.nil_append, List.cons_append] using h
  refine Goes.step2 R hRR h hd (by omega) (by omega) (ns_small (by intro N hN; simp at hN <;> omega)) (by simp) (fun w1 h1 => stepY_gas2 0 h1 R.hard R.code R.fd rfl R.len (by simp) (by omega) (by omega) (by omega) (Nat.zero_le _) (Nat.zero_le _)) fun w' h => ?_
  replace h : StF wB c fbB E 0 fb 60 2 cap fs0 9 (G - 16) [0, 0, 0, 0, v, t, G - 16] [] 0 nilS [] la w' := by simpa only [Nat.sub_sub, Nat.reduceAdd, List.length_nil, List.nil_append, List.cons_append] using h
  exact k w' h
theorem preO2 {wB : World} {c fbB : Nat} {E : XEnv} {fb cap : Nat} {fs0 : Array Value} {G : Nat} {la : List (List Nat)} {w : World} {cv : Value} {sf cl : List Nat} {sb : Bool} {d kk t v o : Nat} {RR P : World → Prop} (R : RunY wB c fbB 60 sb cv (fwdO t o) fs0 sf cl) (hRR : ∀ w, Kept [c, fbB] wB w → RR w) (h : StF wB c fbB E 0 fb 60 2 cap fs0 0 G [] [] 0 nilS [] la w) (hd : 1 ≠ d) (hG1 : 3000 ≤ G) (hG2 : G ≤ 300000) (ht : t < 256) (hv : v < 256) (k : ∀ w', StF wB c fbB E 0 fb 60 2 cap fs0 7 (G - 13) [0, 0, 0, 0, t, G - 13] [] 0 nilS [] la w' → Goes c d RR P kk w') : Goes c d RR P (kk + 6) w := by
  replace h : StF wB c fbB E 0 fb 60 2 cap fs0 0 (G - 0) [] [] 0 nilS [] la w := h
  refine Goes.step2 R hRR h hd (by omega) (by omega) (ns_small (by intro N hN; simp at hN <;> omega)) (by simp) (fun w1 h1 => stepY_push02 0 0 h1 R.hard R.code R.fd rfl R.len (by simp) (by omega) (by omega) (by omega) (Nat.zero_le _) (Nat.zero_le _) rfl) fun w' h => ?_
  replace h : StF wB c fbB E 0 fb 60 2 cap fs0 1 (G - 2) [0] [] 0 nilS [] la w' := by simpa only [Nat.sub_sub, Nat.reduceAdd, List.length_nil, List.nil_append, List.cons_append] using h
  refine Goes.step2 R hRR h hd (by omega) (by omega) (ns_small (by intro N hN; simp at hN <;> omega)) (by simp) (fun w1 h1 => stepY_push02 0 0 h1 R.hard R.code R.fd rfl R.len (by simp) (by omega) (by omega) (by omega) (Nat.zero_le _) (Nat.zero_le _) rfl) fun w' h => ?_
  replace h : StF wB c fbB E 0 fb 60 2 cap fs0 2 (G - 4) [0, 0] [] 0 nilS [] la w' := by simpa only [Nat.sub_sub, Nat.reduceAdd, List.length_nil, List.nil_append, List.cons_append] using h
  refine Goes.step2 R hRR h hd (by omega) (by omega) (ns_small (by intro N hN; simp at hN <;> omega)) (by simp) (fun w1 h1 => stepY_push02 0 0 h1 R.hard R.code R.fd rfl R.len (by simp) (by omega) (by omega) (by omega) (Nat.zero_le _) (Nat.zero_le _) rfl) fun w' h => ?_
  replace h : StF wB c fbB E 0 fb 60 2 cap fs0 3 (G - 6) [0, 0, 0] [] 0 nilS [] la w' := by simpa only [Nat.sub_sub, Nat.reduceAdd, List.length_nil, List.nil_append, List.cons_append] using h
  refine Goes.step2 R hRR h hd (by omega) (by omega) (ns_small (by intro N hN; simp at hN <;> omega)) (by simp) (fun w1 h1 => stepY_push02 0 0 h1 R.hard R.code R.fd rfl R.len (by simp) (by omega) (by omega) (by omega) (Nat.zero_le _) (Nat.zero_le _) rfl) fun w' h => ?_
  replace h : StF wB c fbB E 0 fb 60 2 cap fs0 4 (G - 8) [0, 0, 0, 0] [] 0 nilS [] la w' := by simpa only [Nat.sub_sub, Nat.reduceAdd, List.length_nil, List.nil_append, List.cons_append] using h
  refine Goes.step2 R hRR h hd (by omega) (by omega) (ns_small (by intro N hN; simp at hN <;> omega)) (by simp) (fun w1 h1 => stepY_push12 t 0 h1 R.hard R.code R.fd rfl R.len (by simp) (by omega) (by omega) (by omega) (Nat.zero_le _) (Nat.zero_le _) (by simp [fwdO, cutB, be])) fun w' h => ?_
  replace h : StF wB c fbB E 0 fb 60 2 cap fs0 6 (G - 11) [0, 0, 0, 0, t] [] 0 nilS [] la w' := by simpa only [Nat.sub_sub, Nat.reduceAdd, List.length_nil, List.nil_append, List.cons_append] using h
  refine Goes.step2 R hRR h hd (by omega) (by omega) (ns_small (by intro N hN; simp at hN <;> omega)) (by simp) (fun w1 h1 => stepY_gas2 0 h1 R.hard R.code R.fd rfl R.len (by simp) (by omega) (by omega) (by omega) (Nat.zero_le _) (Nat.zero_le _)) fun w' h => ?_
  replace h : StF wB c fbB E 0 fb 60 2 cap fs0 7 (G - 13) [0, 0, 0, 0, t, G - 13] [] 0 nilS [] la w' := by simpa only [Nat.sub_sub, Nat.reduceAdd, List.length_nil, List.nil_append, List.cons_append] using h
  exact k w' h
theorem probe_back1 {w0 wB wC : World} {c fbB fb cap : Nat} {E : XEnv} {cur fs0 : Array Value} {pv gv sv r7 cw sg vx iu a0 a1 a3 a6 cv1 : Value} {m1 G1 G2 kd sf cl T V : Nat} {sb sb1 : Bool} {la : List (List Nat)} {D : List AD} {ds1 sf1 cl1 : List Nat} (R1 : RunY wB c fbB 0 sb1 cv1 ds1 fs0 sf1 cl1) (C : CallY 1 wC c fb cap E cur fs0 pv gv sv r7 cw sg vx iu a0 a1 a3 a6 m1 G1 G2 kd sf cl sb probeL la D) (hV : NumV wC vx V) (hV2 : V < 256) (hsf : sf < 256) (hcl : cl < 256) (hb : fb = fbB ∨ wB.heap.size ≤ fb) (K : Kept [c, fbB] wB wC) (bas : Bas w0 c fbB wB) (env : EnvD wC E T) (hd : ∀ i, i < 8 → ds1[m1 + 1 + i]? = [80, 61, 95, 95, 62, 61, 95, 243][i]?) (hm : m1 ≤ 700) (h00 : fs0[0 + 0]? = some (.int .u8 ((0 : Nat) : Int))) (hone : ∀ k u, k < 60 → fs0[0 + k]? = some u → u.oneCell' = true) (hcr : ∀ w, Calls Salg.prog 172 #[.int .u8 (kd : Int)] w fun e w' => e = .returned (.bool false) ∧ w' = w) (hg2 : 2000 ≤ G2) (hg : G1 + G2 ≤ 200000) : AtProbe c 1 sb (ad sf) (ad cl) (fun w2 => EndD w2 c T (probeM (ad sf) (ad cl) V) D ∧ Kept [c] w0 w2) wC := by
  obtain ⟨hS, hR⟩ := callY_start C (by decide)
  have hsz := C.size
  have hc2 := C.cap2
  refine ⟨fun w1 K1 => ?_, 1 + 7 + 1 + 14, fb, lt_of_row C.row, fun w1 K1 => ?_⟩
  · refine (sees2 hR (StY.keptZ hS K1) (by omega) (by omega) (by simp) (by simp)).mono ?_
    rintro e w' ⟨s1, s2, s3, he, o1, o2, o3, K2⟩
    exact ⟨_, s1, s2, s3, he, o1, o2, o3, K2⟩
  · clear hS hR
    replace C := C.kept K1
    replace hV := hV.kept K1
    replace env := env.keptN K1 (hard_nil _)
    replace K := K.trans (K1.mono (by simp))
    obtain ⟨hS, hR⟩ := callY_start C (by decide)
    refine probe_run2 hR (ad_small hsf) (ad_small hcl) (by have e := C.inn 5 (by decide); exact e) hV hV2 (by omega) (by omega) hS fun w2 h2 => ?_
    refine ret2 hR h2 rfl (by omega) (by omega) (probeM_len rfl rfl) (by have e := C.inn 0 (by decide); exact e) hcr (callY_one C) (by omega) C.cap2 C.capM C.parts C.c3 C.c4 C.c7 C.c8 C.c9 C.n7 (by omega) (by omega) fun w3 fs1 u h3 hH hk hz K3 hb3 => ?_
    have k3 := kept_new K hb K3
    have R1' : RunY w3 c fb 0 sb1 cv1 ds1 fs1 sf1 cl1 := R1.back k3 hH (by omega) (fun k hk1 a b d e f g => by
      rw [hk _ (by omega)]
      exact C.par _ (by omega) (by omega) (by omega) (by omega) (by omega) (by omega) (by omega))
    have ho : ∀ k u, k < 60 → fs1[0 + k]? = some u → u.oneCell' = true := fun k u hk1 hu => by
      rw [hk _ (by omega)] at hu
      exact callY_pone C (by omega) hone k u hk1 hu
    have h0' : fs1[0 + 0]? = some (.int .u8 ((0 : Nat) : Int)) := by
      rw [hk _ (by omega), C.par _ (by omega) (by omega) (by omega) (by omega) (by omega) (by omega) (by omega)]
      exact h00
    refine back_run1 R1' hd (by omega) (probeM_len rfl rfl) (by omega) (by omega) h3 fun w4 h4 => ?_
    exact ret1 R1' h4 (hd 7 (by decide)) (by omega) (by omega) (probeM_len rfl rfl) h0' creates_zero ho (by omega) (by omega) (by decide) ((AccD.still D) _ _ _ _ C.acc K3 hR.hard) (env.keptN K3 hR.hard) (bas.next k3 hb) (fun w K4 => kept_new K3 (.inl rfl) K4)
theorem probe_back2 {w0 wB wC wD : World} {c fbB fb cap fb2 cap2 : Nat} {E E2 : XEnv} {cur fs0 cur2 : Array Value} {pv gv sv r7 cw sg vx iu a0 a1 a3 a6 cv1 pv2 gv2 sv2 r72 cw2 sg2 vx2 iu2 b0 b1 b3 b6 : Value} {m1 G1 G2 kd sf cl m2 H1 H2 kd2 sf2 cl2 T V : Nat} {sb sb1 sb2 : Bool} {la la2 : List (List Nat)} {D D2 : List AD} {ds1 ds2 sf1 cl1 : List Nat} (R1 : RunY wB c fbB 0 sb1 cv1 ds1 fs0 sf1 cl1) (C : CallY 1 wC c fb cap E cur fs0 pv gv sv r7 cw sg vx iu a0 a1 a3 a6 m1 G1 G2 kd sf cl sb ds2 la D) (C2 : CallY 2 wD c fb2 cap2 E2 cur2 cur pv2 gv2 sv2 r72 cw2 sg2 vx2 iu2 b0 b1 b3 b6 m2 H1 H2 kd2 sf2 cl2 sb2 probeL la2 D2) (hV : NumV wD vx2 V) (hV2 : V < 256) (hsf : sf2 < 256) (hcl : cl2 < 256) (hb : fb = fbB ∨ wB.heap.size ≤ fb) (K : Kept [c, fbB] wB wC) (hbb : fb2 = fb ∨ wC.heap.size ≤ fb2) (KD : Kept [c, fb] wC wD) (bas : Bas w0 c fbB wB) (env : EnvD wD E2 T) (hd : ∀ i, i < 8 → ds1[m1 + 1 + i]? = [80, 61, 95, 95, 62, 61, 95, 243][i]?) (hd2 : ∀ i, i < 8 → ds2[m2 + 1 + i]? = [80, 61, 95, 95, 62, 61, 95, 243][i]?) (hm : m1 ≤ 700) (hm2 : m2 ≤ 700) (hl2 : ds2.length ≤ 1000) (h00 : fs0[0 + 0]? = some (.int .u8 ((0 : Nat) : Int))) (hone : ∀ k u, k < 60 → fs0[0 + k]? = some u → u.oneCell' = true) (hcr : ∀ w, Calls Salg.prog 172 #[.int .u8 (kd : Int)] w fun e w' => e = .returned (.bool false) ∧ w' = w) (hcr2 : ∀ w, Calls Salg.prog 172 #[.int .u8 (kd2 : Int)] w fun e w' => e = .returned (.bool false) ∧ w' = w) (hg2 : 2000 ≤ H2) (hg1 : H1 + H2 ≤ G2) (hg : G1 + G2 ≤ 200000) : AtProbe c 2 sb2 (ad sf2) (ad cl2) (fun w2 => EndD w2 c T (probeM (ad sf2) (ad cl2) V) D2 ∧ Kept [c] w0 w2) wD := by
  obtain ⟨hS, hR⟩ := callY_start C2 (by decide)
  obtain ⟨hSc, hRc⟩ := callY_start C hl2
  have hsz := C2.size
  have hc2 := C2.cap2
  have hsz1 := C.size
  have hc1 := C.cap2
  refine ⟨fun w1 K1 => ?_, 1 + 7 + 1 + 7 + 1 + 14, fb2, lt_of_row C2.row, fun w1 K1 => ?_⟩
  · refine (sees3 hR (StY.keptZ hS K1) (by omega) (by omega) (by simp) (by simp)).mono ?_
    rintro e w' ⟨s1, s2, s3, he, o1, o2, o3, K2⟩
    exact ⟨_, s1, s2, s3, he, o1, o2, o3, K2⟩
  · clear hS hR
    replace C2 := C2.kept K1
    replace hV := hV.kept K1
    replace env := env.keptN K1 (hard_nil _)
    replace KD := KD.trans (K1.mono (by simp))
    obtain ⟨hS, hR⟩ := callY_start C2 (by decide)
    refine probe_run3 hR (ad_small hsf) (ad_small hcl) (by have e := C2.inn 5 (by decide); exact e) hV hV2 (by omega) (by omega) hS fun w2 h2 => ?_
    refine ret3 hR h2 rfl (by omega) (by omega) (probeM_len rfl rfl) (by have e := C2.inn 0 (by decide); exact e) hcr2 (callY_one C2) (by omega) C2.cap2 C2.capM C2.parts C2.c3 C2.c4 C2.c7 C2.c8 C2.c9 C2.n7 (by omega) (by omega) fun w3 fs1 u h3 hH hk hz K3 hb3 => ?_
    have k3 : Kept [c, fb] wC w3 := kept_new KD hbb K3
    have R2' : RunY w3 c fb2 60 sb cw ds2 fs1 (ad sf) (ad cl) := hRc.back k3 hH (by omega) (fun k hk1 a b d e f g => by
      rw [hk _ (by omega)]
      exact C2.par _ (by omega) (by omega) (by omega) (by omega) (by omega) (by omega) (by omega))
    have ho2 : ∀ k u, k < 60 → fs1[60 + k]? = some u → u.oneCell' = true := fun k u hk1 hu => by
      rw [hk _ (by omega)] at hu
      exact callY_pone C2 (by omega) (callY_one C) k u hk1 hu
    have par0 : ∀ k, k < 60 → fs1[0 + k]? = cur[0 + k]? := fun k hk1 => by
      rw [hk _ (by omega)]
      exact C2.par _ (by omega) (by omega) (by omega) (by omega) (by omega) (by omega) (by omega)
    have h60 : fs1[60 + 0]? = some (.int .u8 (kd : Int)) := by
      rw [hk _ (by omega), C2.par _ (by omega) (by omega) (by omega) (by omega) (by omega) (by omega) (by omega)]
      have e := C.inn 0 (by decide)
      exact e
    have c3 : fs1[0 + 3]? = some pv := by rw [par0 3 (by decide)]; exact C.c3
    have c4 : fs1[0 + 4]? = some gv := by rw [par0 4 (by decide)]; exact C.c4
    have c7 : fs1[0 + 7]? = some r7 := by rw [par0 7 (by decide)]; exact C.c7
    have c8 : fs1[0 + 8]? = some sv := by rw [par0 8 (by decide)]; exact C.c8
    have c9 : fs1[0 + 9]? = some nilS := by rw [par0 9 (by decide)]; exact C.c9
    refine back_run2 R2' hd2 (by omega) (probeM_len rfl rfl) (by omega) (by omega) h3 fun w4 h4 => ?_
    refine ret2 R2' h4 (hd2 7 (by decide)) (by omega) (by omega) (probeM_len rfl rfl) h60 hcr ho2 (by omega) (by omega) (by decide) (C.parts.keptN k3 hRc.hard) c3 c4 c7 c8 c9 (C.n7.keptN k3 hRc.hard) (by omega) (by omega) fun w5 fs2 u2 h5 hH5 hk5 hz5 K5 hb5 => ?_
    have k5 : Kept [c, fb] wC w5 := kept_new k3 hbb K5
    have k6 : Kept [c, fbB] wB w5 := kept_new K hb k5
    have par1 : ∀ k, k < 60 → fs2[0 + k]? = cur[0 + k]? := fun k hk1 => by
      rw [hk5 _ (by omega)]
      exact par0 k hk1
    have R1' : RunY w5 c fb2 0 sb1 cv1 ds1 fs2 sf1 cl1 := R1.back k6 hH5 (by omega) (fun k hk1 a b d e f g => by
      rw [par1 _ (by omega)]
      exact C.par _ (by omega) (by omega) (by omega) (by omega) (by omega) (by omega) (by omega))
    have ho : ∀ k u, k < 60 → fs2[0 + k]? = some u → u.oneCell' = true := fun k u hk1 hu => by
      rw [par1 _ (by omega)] at hu
      exact callY_pone C (by omega) hone k u hk1 hu
    have h0' : fs2[0 + 0]? = some (.int .u8 ((0 : Nat) : Int)) := by
      rw [par1 _ (by omega), C.par _ (by omega) (by omega) (by omega) (by omega) (by omega) (by omega) (by omega)]
      exact h00
    have kD : Kept [c, fb2] w1 w5 := kept_new K3 (.inl rfl) K5
    refine back_run1 R1' hd (by omega) (probeM_len rfl rfl) (by omega) (by omega) h5 fun w6 h6 => ?_
    exact ret1 R1' h6 (hd 7 (by decide)) (by omega) (by omega) (probeM_len rfl rfl) h0' creates_zero ho (by omega) (by omega) (by decide) ((AccD.still D2) _ _ _ _ C2.acc kD hR.hard) (env.keptN kD hR.hard) ((bas.next K hb).next k5 hbb) (fun w K4 => kept_new kD (.inl rfl) K4)
end Go.Proofs.YgcsalGreat

/-
  Runs of Context: the way to the probe (each state seen by View on the way), and where a callee begins.
-/
import Derived.Test.YgcsalGreatCx15
import Derived.Test.YgcsalGreatSl38
set_option linter.unusedSimpArgs false
set_option linter.unusedVariables false
namespace Go.Own
open Go.Proofs.YgcsalGreat
/-- What a frame's run reads. -/
structure RunY (wB : World) (c fbB q : Nat) (sb : Bool) (cv : Value) (ds : List Nat) (fs0 : Array Value) (sf cl : List Nat) : Prop where
  hard : Hard [c, fbB] wB
  code : NatV wB cv ds
  fd : FrB fs0 q sb cv
  len : ds.length ≤ 1000
  se : fs0.extract (q + 12) (q + 12 + 20) = (sf.map n8).toArray
  ca : fs0.extract (q + 32) (q + 32 + 20) = (cl.map n8).toArray
  sl : sf.length = 20
  cl : cl.length = 20
theorem StY.keptZ {wB : World} {c fbB : Nat} {E : XEnv} {rr fb q n cap : Nat} {fs0 : Array Value} {m G : Nat} {ns mem : List Nat} {W : Nat} {rt : Value} {rd : List Nat} {la : List (List Nat)} {w w' : World} (h : StF wB c fbB E rr fb q n cap fs0 m G ns mem W rt rd la w) (K : Kept [] w w') : StF wB c fbB E rr fb q n cap fs0 m G ns mem W rt rd la w' := by
  obtain ⟨S, mv, hS⟩ := h
  exact ⟨S, mv, hS.kept K⟩
theorem ext_frG {cur : Array Value} {q kd s t : Nat} {sb : Bool} {gv vv cu iu : Value} {sv : List Value} (hsz : q + 60 ≤ cur.size) (h : ∀ k, k < 60 → cur[q + k]? = (frG kd sb gv vv cu iu (ad s) (ad t) sv)[k]?) : cur.extract (q + 12) (q + 12 + 20) = ((ad s).map n8).toArray ∧ cur.extract (q + 32) (q + 32 + 20) = ((ad t).map n8).toArray := by
  constructor
  · refine extract_list (by simp [ad]) (by omega) fun k hk => ?_
    rw [Nat.add_assoc, h (12 + k) (by omega), frG, List.getElem?_append_right (by simp), List.getElem?_append_left (by simp [ad]; omega)]
    congr 1
    first | (simp; done) | (simp; omega)
  · refine extract_list (by simp [ad]) (by omega) fun k hk => ?_
    rw [Nat.add_assoc, h (32 + k) (by omega), frG, List.getElem?_append_right (by simp; omega), List.getElem?_append_right (by simp [ad]; omega), List.getElem?_append_left (by simp [ad]; omega)]
    congr 1
    first | (simp [ad]; done) | (simp [ad]; omega)
end Go.Own
namespace Go.Proofs.YgcsalGreat
open Go.RowKit Go.Own
/-- View shows another depth. -/
def SeesNot (c d : Nat) (w : World) : Prop := Calls Salg.prog 20 #[.pointer (some ⟨c, 0, none⟩)] w fun e w' => ∃ (sb : Bool) (d' m G : Nat) (sf cl : List Nat) (sv mv rv : Value), e = .returned (.agg (vwG sb d' m G sf cl sv mv rv).toArray) ∧ sf.length = 20 ∧ cl.length = 20 ∧ d' < 256 ∧ d' ≠ d ∧ Kept [] w w'
/-- Steps that lead to the depth d. -/
def Goes (c d : Nat) (RR P : World → Prop) : Nat → World → Prop
  | 0, w => RR w ∧ P w
  | k + 1, w => RR w ∧ (∀ w1, Kept [] w w1 → SeesNot c d w1) ∧ ∀ w1, Kept [] w w1 → Calls Salg.prog 27 #[.pointer (some ⟨c, 0, none⟩)] w1 fun e w' => e = .returned (.bool true) ∧ Goes c d RR P k w'
theorem sees1 {wB : World} {c fbB : Nat} {E : XEnv} {rr fb cap : Nat} {fs0 : Array Value} {m G : Nat} {ns mem : List Nat} {W : Nat} {rt : Value} {rd : List Nat} {la : List (List Nat)} {w : World} {cv : Value} {ds sf cl : List Nat} {sb : Bool} (R : RunY wB c fbB 0 sb cv ds fs0 sf cl) (h : StF wB c fbB E rr fb 0 1 cap fs0 m G ns mem W rt rd la w) (hm : m ≤ 1000) (hG : G ≤ 1000000) (hns : ∀ N ∈ ns, N < 256 ^ 32) (hl : ns.length ≤ 40) :
    Calls Salg.prog 20 #[.pointer (some ⟨c, 0, none⟩)] w fun e w' => ∃ sv mvv rvv : Value, e = .returned (.agg (vwG sb 0 m G sf cl sv mvv rvv).toArray) ∧ sv.oneCell' = true ∧ mvv.oneCell' = true ∧ rvv.oneCell' = true ∧ Kept [] w w' := by
  obtain ⟨S, mv, hS⟩ := h
  have hln := hS.len
  have hw := hS.wle
  exact viewY1 c fb cap m G sb E fs0 cv rt mv ns mem rd sf cl la w hS.ch hS.fr.toQ R.fd R.se R.ca R.sl R.cl (hS.mm.nat hS.sm (by omega)) hS.rt.1 hm hG hns hl
theorem Goes.step1 {wB : World} {c fbB : Nat} {E : XEnv} {rr fb cap : Nat} {fs0 : Array Value} {m G : Nat} {ns mem : List Nat} {W : Nat} {rt : Value} {rd : List Nat} {la : List (List Nat)} {w : World} {cv : Value} {ds sf cl : List Nat} {sb : Bool} {d k : Nat} {RR P P2 : World → Prop} (R : RunY wB c fbB 0 sb cv ds fs0 sf cl) (hRR : ∀ w, Kept [c, fbB] wB w → RR w) (h : StF wB c fbB E rr fb 0 1 cap fs0 m G ns mem W rt rd la w) (hd : 0 ≠ d) (hm : m ≤ 1000) (hG : G ≤ 1000000) (hns : ∀ N ∈ ns, N < 256 ^ 32) (hl : ns.length ≤ 40) (hs : ∀ w1, StF wB c fbB E rr fb 0 1 cap fs0 m G ns mem W rt rd la w1 → Calls Salg.prog 27 #[.pointer (some ⟨c, 0, none⟩)] w1 fun e w' => e = .returned (.bool true) ∧ P2 w') (hk : ∀ w', P2 w' → Goes c d RR P k w') : Goes c d RR P (k + 1) w := by
  have hW : RR w := by
    obtain ⟨S, mv, hS⟩ := h
    exact hRR _ hS.k
  refine ⟨hW, fun w1 K => ?_, fun w1 K => ?_⟩
  · refine (sees1 R (StY.keptZ h K) hm hG hns hl).mono ?_
    rintro e w' ⟨sv, mvv, rvv, he, _, _, _, K2⟩
    exact ⟨sb, 0, m, G, sf, cl, sv, mvv, rvv, he, R.sl, R.cl, by decide, hd, K2⟩
  · exact (hs w1 (StY.keptZ h K)).mono fun e w' ⟨h1, h2⟩ => ⟨h1, hk w' h2⟩
theorem sees2 {wB : World} {c fbB : Nat} {E : XEnv} {rr fb cap : Nat} {fs0 : Array Value} {m G : Nat} {ns mem : List Nat} {W : Nat} {rt : Value} {rd : List Nat} {la : List (List Nat)} {w : World} {cv : Value} {ds sf cl : List Nat} {sb : Bool} (R : RunY wB c fbB 60 sb cv ds fs0 sf cl) (h : StF wB c fbB E rr fb 60 2 cap fs0 m G ns mem W rt rd la w) (hm : m ≤ 1000) (hG : G ≤ 1000000) (hns : ∀ N ∈ ns, N < 256 ^ 32) (hl : ns.length ≤ 40) :
    Calls Salg.prog 20 #[.pointer (some ⟨c, 0, none⟩)] w fun e w' => ∃ sv mvv rvv : Value, e = .returned (.agg (vwG sb 1 m G sf cl sv mvv rvv).toArray) ∧ sv.oneCell' = true ∧ mvv.oneCell' = true ∧ rvv.oneCell' = true ∧ Kept [] w w' := by
  obtain ⟨S, mv, hS⟩ := h
  have hln := hS.len
  have hw := hS.wle
  exact viewY2 c fb cap m G sb E fs0 cv rt mv ns mem rd sf cl la w hS.ch hS.fr.toQ R.fd R.se R.ca R.sl R.cl (hS.mm.nat hS.sm (by omega)) hS.rt.1 hm hG hns hl
theorem Goes.step2 {wB : World} {c fbB : Nat} {E : XEnv} {rr fb cap : Nat} {fs0 : Array Value} {m G : Nat} {ns mem : List Nat} {W : Nat} {rt : Value} {rd : List Nat} {la : List (List Nat)} {w : World} {cv : Value} {ds sf cl : List Nat} {sb : Bool} {d k : Nat} {RR P P2 : World → Prop} (R : RunY wB c fbB 60 sb cv ds fs0 sf cl) (hRR : ∀ w, Kept [c, fbB] wB w → RR w) (h : StF wB c fbB E rr fb 60 2 cap fs0 m G ns mem W rt rd la w) (hd : 1 ≠ d) (hm : m ≤ 1000) (hG : G ≤ 1000000) (hns : ∀ N ∈ ns, N < 256 ^ 32) (hl : ns.length ≤ 40) (hs : ∀ w1, StF wB c fbB E rr fb 60 2 cap fs0 m G ns mem W rt rd la w1 → Calls Salg.prog 27 #[.pointer (some ⟨c, 0, none⟩)] w1 fun e w' => e = .returned (.bool true) ∧ P2 w') (hk : ∀ w', P2 w' → Goes c d RR P k w') : Goes c d RR P (k + 1) w := by
  have hW : RR w := by
    obtain ⟨S, mv, hS⟩ := h
    exact hRR _ hS.k
  refine ⟨hW, fun w1 K => ?_, fun w1 K => ?_⟩
  · refine (sees2 R (StY.keptZ h K) hm hG hns hl).mono ?_
    rintro e w' ⟨sv, mvv, rvv, he, _, _, _, K2⟩
    exact ⟨sb, 1, m, G, sf, cl, sv, mvv, rvv, he, R.sl, R.cl, by decide, hd, K2⟩
  · exact (hs w1 (StY.keptZ h K)).mono fun e w' ⟨h1, h2⟩ => ⟨h1, hk w' h2⟩
theorem sees3 {wB : World} {c fbB : Nat} {E : XEnv} {rr fb cap : Nat} {fs0 : Array Value} {m G : Nat} {ns mem : List Nat} {W : Nat} {rt : Value} {rd : List Nat} {la : List (List Nat)} {w : World} {cv : Value} {ds sf cl : List Nat} {sb : Bool} (R : RunY wB c fbB 120 sb cv ds fs0 sf cl) (h : StF wB c fbB E rr fb 120 3 cap fs0 m G ns mem W rt rd la w) (hm : m ≤ 1000) (hG : G ≤ 1000000) (hns : ∀ N ∈ ns, N < 256 ^ 32) (hl : ns.length ≤ 40) :
    Calls Salg.prog 20 #[.pointer (some ⟨c, 0, none⟩)] w fun e w' => ∃ sv mvv rvv : Value, e = .returned (.agg (vwG sb 2 m G sf cl sv mvv rvv).toArray) ∧ sv.oneCell' = true ∧ mvv.oneCell' = true ∧ rvv.oneCell' = true ∧ Kept [] w w' := by
  obtain ⟨S, mv, hS⟩ := h
  have hln := hS.len
  have hw := hS.wle
  exact viewY3 c fb cap m G sb E fs0 cv rt mv ns mem rd sf cl la w hS.ch hS.fr.toQ R.fd R.se R.ca R.sl R.cl (hS.mm.nat hS.sm (by omega)) hS.rt.1 hm hG hns hl
theorem Goes.step3 {wB : World} {c fbB : Nat} {E : XEnv} {rr fb cap : Nat} {fs0 : Array Value} {m G : Nat} {ns mem : List Nat} {W : Nat} {rt : Value} {rd : List Nat} {la : List (List Nat)} {w : World} {cv : Value} {ds sf cl : List Nat} {sb : Bool} {d k : Nat} {RR P P2 : World → Prop} (R : RunY wB c fbB 120 sb cv ds fs0 sf cl) (hRR : ∀ w, Kept [c, fbB] wB w → RR w) (h : StF wB c fbB E rr fb 120 3 cap fs0 m G ns mem W rt rd la w) (hd : 2 ≠ d) (hm : m ≤ 1000) (hG : G ≤ 1000000) (hns : ∀ N ∈ ns, N < 256 ^ 32) (hl : ns.length ≤ 40) (hs : ∀ w1, StF wB c fbB E rr fb 120 3 cap fs0 m G ns mem W rt rd la w1 → Calls Salg.prog 27 #[.pointer (some ⟨c, 0, none⟩)] w1 fun e w' => e = .returned (.bool true) ∧ P2 w') (hk : ∀ w', P2 w' → Goes c d RR P k w') : Goes c d RR P (k + 1) w := by
  have hW : RR w := by
    obtain ⟨S, mv, hS⟩ := h
    exact hRR _ hS.k
  refine ⟨hW, fun w1 K => ?_, fun w1 K => ?_⟩
  · refine (sees3 R (StY.keptZ h K) hm hG hns hl).mono ?_
    rintro e w' ⟨sv, mvv, rvv, he, _, _, _, K2⟩
    exact ⟨sb, 2, m, G, sf, cl, sv, mvv, rvv, he, R.sl, R.cl, by decide, hd, K2⟩
  · exact (hs w1 (StY.keptZ h K)).mono fun e w' ⟨h1, h2⟩ => ⟨h1, hk w' h2⟩
theorem callY_start {n : Nat} {w : World} {c fb cap : Nat} {E : XEnv} {cur fs0 : Array Value} {pv gv sv r7 cw sg vx iu a0 a1 a3 a6 : Value} {m G1 G2 kd sf cl : Nat} {sb : Bool} {ds : List Nat} {la : List (List Nat)} {D : List AD} (h : CallY n w c fb cap E cur fs0 pv gv sv r7 cw sg vx iu a0 a1 a3 a6 m G1 G2 kd sf cl sb ds la D) (hl : ds.length ≤ 1000) :
    StF w c fb E 0 fb (60 * n) (n + 1) cap cur 0 G2 [] [] 0 nilS [] la w ∧ RunY w c fb (60 * n) sb cw ds cur (ad sf) (ad cl) := by
  have hz : 60 * n + 60 ≤ cur.size := by
    rw [h.size]
    have := h.cap2
    have h2 : (n + 1) * 60 ≤ cap * 60 := Nat.mul_le_mul_right _ this
    omega
  have e : ∀ k, k < 60 → cur[60 * n + k]? = (frG kd sb sg vx cw iu (ad sf) (ad cl) (wrow5 a0 a1 a3 a6))[k]? := h.inn
  have hF : FrameQ w fb (60 * n) cur 0 G2 [] nilS := ⟨cur, nilS, sg, nilS, [], h.row, rfl, fun k _ _ _ _ => rfl, by rw [e 3 (by decide)]; rfl, nil_num _, by rw [e 4 (by decide)]; rfl, h.nsg, by rw [e 8 (by decide)]; rfl, .inl ⟨rfl, rfl⟩, ⟨rfl, fun k v n e => by simp at e⟩, by rw [e 9 (by decide)]; rfl⟩
  refine ⟨state_back 0 (Kept.refl _ _) h.ch hF (NatV.nil _), ?_⟩
  obtain ⟨wz, c1, _⟩ := h.ch
  have hx := ext_frG hz e
  refine ⟨?_, h.ncw, ⟨by rw [e 1 (by decide)]; rfl, by rw [e 2 (by decide)]; rfl, by rw [e 10 (by decide)]; rfl, hz⟩, hl, hx.1, hx.2, rfl, rfl⟩
  intro x hx
  simp only [List.mem_cons, List.mem_singleton, List.not_mem_nil, or_false] at hx
  rcases hx with rfl | rfl
  · exact ⟨_, 119, c1, .inl rfl, chy_nb _ _ _ _⟩
  · exact ⟨_, 142, h.row, .inr rfl, not_bytes_at (tc := 142) (i := 60 * n + 3) (p := none) (n := 0) (m := 0) (by rw [e 3 (by decide)]; rfl)⟩
end Go.Proofs.YgcsalGreat

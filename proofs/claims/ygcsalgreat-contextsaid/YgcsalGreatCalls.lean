/-
  A region that draws its order and holds calls whose answers depend on the world (new blocks): the calls wait for one another; what else it holds only reads. A list of its operations is chosen in which
  whatever stands behind a call waits for it; then every order gives what the list's own order gives.
-/
import Derived.Test.YgcsalGreatQuiet
set_option linter.unusedSimpArgs false
set_option linter.unusedVariables false
namespace Go.Own
def isSp (o : Oper) : Bool := match o.op with
  | .call c => (match c.callee with
    | .value _ => true
    | _ => false)
  | _ => false

def FirstO (P : Program) (w0 : World) (X : List Nat) (L : List (Nat × Obj)) (ops : Array Oper) (o : Oper) (K : Act → World → Prop) (a : Act) (w : World) : Prop :=
    ((Region.wanted o (yielded ops a.tmps) = false ∧ K (a.put o.dst undef) w) ∨
     (Region.wanted o (yielded ops a.tmps) = true ∧ isSp o = true ∧ ∃ f args, (∀ w, (execOp a.eval o).run P w = .ok (.enter f args) w) ∧ Calls P f args w (fun e w' => ∃ v, e = .returned v ∧ Mem w0 X L w' ∧ K (a.put o.dst v) w')) ∨
     (Region.wanted o (yielded ops a.tmps) = true ∧ isSp o = false ∧ ∃ v, (∀ w, Mem w0 X L w → (execOp a.eval o).run P w = .ok (.value v) w) ∧ K (a.put o.dst v) w))
def First (P : Program) (w0 : World) (X : List Nat) (L : List (Nat × Obj)) (ops : Array Oper) (i : Nat) (K : Act → World → Prop) (a : Act) (w : World) : Prop :=
  ∃ o, ops[i]? = some o ∧ FirstO P w0 X L ops o K a w
/-- The chosen list's own order. -/
def seqL (P : Program) (w0 : World) (X : List Nat) (L : List (Nat × Obj)) (ops : Array Oper) (F : Act → World → Prop) : List Oper → Act → World → Prop
  | [], a, w => F a w
  | o :: rest, a, w => FirstO P w0 X L ops o (seqL P w0 X L ops F rest) a w

def seqR (P : Program) (w0 : World) (X : List Nat) (L : List (Nat × Obj)) (ops : Array Oper) (F : Act → World → Prop) : List Nat → Act → World → Prop
  | [], a, w => F a w
  | i :: rest, a, w => First P w0 X L ops i (seqR P w0 X L ops F rest) a w

def pairsB (ops : List Oper) (ms : List Nat) : List Nat → Bool
  | [] => true
  | p :: rest => (rest.all fun i => match ops[p]?, ops[i]? with
      | some op, some oi => (ms.getD i 0).testBit p || (op.apart ops.toArray oi && !isSp op)
      | _, _ => false) && pairsB ops ms rest
def callsB (ops : List Oper) (π : List Nat) : Bool :=
  Region.noSelect ops.toArray && (ops.zipIdx.all fun p => p.1.after.all fun e => !Region.binds .any e || decide (e.on < p.2)) &&
  ((List.range ops.length).all fun i => π.contains i) && (π.all fun i => decide (i < ops.length)) && decide π.Nodup && decide (π.length = ops.length) && pairsB ops (masks ops) π

section
variable {P : Program} {w0 : World} {X : List Nat} {L : List (Nat × Obj)} {ops : Array Oper} {F : Act → World → Prop}

theorem FirstO.mono {o : Oper} {K K' : Act → World → Prop} {a : Act} {w : World} (h : FirstO P w0 X L ops o K a w) (hk : ∀ a' w', K a' w' → K' a' w') : FirstO P w0 X L ops o K' a w := by
  rcases h with ⟨h1, h2⟩ | ⟨h1, h2, f, args, h3, h4⟩ | ⟨h1, h2, v, h3, h4⟩
  · exact .inl ⟨h1, hk _ _ h2⟩
  · exact .inr (.inl ⟨h1, h2, f, args, h3, h4.mono fun e w' ⟨v, he, hM, hK⟩ => ⟨v, he, hM, hk _ _ hK⟩⟩)
  · exact .inr (.inr ⟨h1, h2, v, h3, hk _ _ h4⟩)
theorem seqR_of_seqL : ∀ (l : List Nat) (a : Act) (w : World), (∀ i ∈ l, ∃ o, ops[i]? = some o) → seqL P w0 X L ops F (l.filterMap fun i => ops[i]?) a w → seqR P w0 X L ops F l a w
  | [], a, w, _, h => h
  | i :: l, a, w, hl, h => by
    obtain ⟨o, ho⟩ := hl i (by simp)
    rw [List.filterMap_cons, ho] at h
    exact ⟨o, ho, FirstO.mono h fun a' w' hq => seqR_of_seqL l a' w' (fun j hj => hl j (by simp [hj])) hq⟩

theorem First.mono {i : Nat} {o : Oper} (ho : ops[i]? = some o) {K K' : Act → World → Prop} {a : Act} {w : World} (h : First P w0 X L ops i K a w) (hk : ∀ v w', K (a.put o.dst v) w' → K' (a.put o.dst v) w') : First P w0 X L ops i K' a w := by
  obtain ⟨o', ho', h⟩ := h
  rw [ho] at ho'
  cases ho'
  refine ⟨o, ho, ?_⟩
  rcases h with ⟨h1, h2⟩ | ⟨h1, h2, f, args, h3, h4⟩ | ⟨h1, h2, v, h3, h4⟩
  · exact .inl ⟨h1, hk _ _ h2⟩
  · exact .inr (.inl ⟨h1, h2, f, args, h3, h4.mono fun e w' ⟨v, he, hM, hK⟩ => ⟨v, he, hM, hk _ _ hK⟩⟩)
  · exact .inr (.inr ⟨h1, h2, v, h3, hk _ _ h4⟩)

/-- The two operations look at nothing that the other writes. -/
structure Off (ops : Array Oper) (x y : Oper) : Prop where
  h1 : ∀ d, x.dst = some d → d ∉ y.looksAt ops
  h2 : ∀ d, x.dst = some d → y.dst ≠ some d
  h3 : ∀ d, y.dst = some d → d ∉ x.looksAt ops

theorem put_same_slots {a : Act} {x y : Oper} {v : Value} (h : ∀ d, x.dst = some d → d ∉ y.looksAt ops) : ∀ t ∈ y.looksAt ops, (a.put x.dst v).tmps[t]? = a.tmps[t]? := by
  intro t ht
  rw [put_slot, if_neg]
  rintro ⟨h', _⟩
  exact h t h' ht

theorem first_put {i : Nat} {oi op : Oper} (hsel : ∀ cs b, oi.op ≠ .select cs b) (hi : ops[i]? = some oi) (hoff : Off ops op oi) {K : Act → World → Prop} {a : Act} {w : World} {vp : Value} (h : First P w0 X L ops i K (a.put op.dst vp) w) :
    First P w0 X L ops i (fun a' w' => K (a'.put op.dst vp) w') a w := by
  obtain ⟨o', ho', h⟩ := h
  rw [hi] at ho'
  cases ho'
  have hs := put_same_slots (a := a) (v := vp) hoff.h1
  have hw := wanted_of_slots (a := a.put op.dst vp) (a' := a) hs
  have hx : execOp (a.put op.dst vp).eval oi = execOp a.eval oi := execOp_congr oi hsel (eval_of_slots hs)
  have hc : ∀ v, (a.put op.dst vp).put oi.dst v = (a.put oi.dst v).put op.dst vp := fun v => Act.put_comm a vp v (fun t ht => hoff.h2 t ht)
  refine ⟨oi, hi, ?_⟩
  unfold FirstO at h ⊢
  rw [hw] at h
  simp only [hx, hc] at h
  exact h

variable {sel : Region.noSelect ops = true}

theorem seq_move (hsel : ∀ (i : Nat) (o : Oper), ops[i]? = some o → ∀ cs b, o.op ≠ .select cs b) {i : Nat} {oi : Oper} (hi : ops[i]? = some oi) (post : List Nat) : ∀ (pre : List Nat) (a : Act) (w : World), (∀ p ∈ pre, ∃ op, ops[p]? = some op ∧ isSp op = false ∧ Off ops op oi) →
    seqR P w0 X L ops F (pre ++ i :: post) a w → First P w0 X L ops i (seqR P w0 X L ops F (pre ++ post)) a w
  | [], a, w, _, h => h
  | p :: pre, a, w, hp, h => by
    obtain ⟨op, hop, hsp, hoff⟩ := hp p (by simp)
    have hpre : ∀ q ∈ pre, ∃ op, ops[q]? = some op ∧ isSp op = false ∧ Off ops op oi := fun q hq => hp q (by simp [hq])
    have key : ∀ vp, seqR P w0 X L ops F (pre ++ i :: post) (a.put op.dst vp) w → (∀ v, First P w0 X L ops p (fun a' _ => a' = (a.put oi.dst v).put op.dst vp) (a.put oi.dst v) w) → (∀ v w', seqR P w0 X L ops F (pre ++ post) ((a.put oi.dst v).put op.dst vp) w' → seqR P w0 X L ops F ((p :: pre) ++ post) (a.put oi.dst v) w') →
        First P w0 X L ops i (seqR P w0 X L ops F ((p :: pre) ++ post)) a w := by
      intro vp hr _ hk
      exact First.mono hi (first_put (hsel i oi hi) hi hoff (seq_move hsel hi post pre _ _ hpre hr)) hk
    have hs : ∀ v, ∀ t ∈ op.looksAt ops, (a.put oi.dst v).tmps[t]? = a.tmps[t]? := fun v => put_same_slots (a := a) (x := oi) (y := op) (v := v) hoff.h3
    have hw : ∀ v, Region.wanted op (yielded ops (a.put oi.dst v).tmps) = Region.wanted op (yielded ops a.tmps) := fun v => wanted_of_slots (hs v)
    have hx : ∀ v, execOp (a.put oi.dst v).eval op = execOp a.eval op := fun v => execOp_congr op (hsel p op hop) (eval_of_slots (hs v))
    obtain ⟨o', ho', h⟩ := h
    rw [hop] at ho'
    cases ho'
    rcases h with ⟨h1, h2⟩ | ⟨h1, h2, _⟩ | ⟨h1, h2, vp, h3, h4⟩
    · exact key undef h2 (fun v => ⟨op, hop, .inl ⟨by rw [hw]; exact h1, rfl⟩⟩) (fun v w' hq => ⟨op, hop, .inl ⟨by rw [hw]; exact h1, hq⟩⟩)
    · rw [hsp] at h2; cases h2
    · exact key vp h4 (fun v => ⟨op, hop, .inr (.inr ⟨by rw [hw]; exact h1, h2, vp, fun w hM => by rw [hx]; exact h3 w hM, rfl⟩)⟩)
        (fun v w' hq => ⟨op, hop, .inr (.inr ⟨by rw [hw]; exact h1, h2, vp, fun w hM => by rw [hx]; exact h3 w hM, hq⟩)⟩)
end

section
variable {P : Program} {w0 : World} {X : List Nat} {L : List (Nat × Obj)} {ops : List Oper} {Q : Exit → Act → World → Prop} {π : List Nat}

theorem pairsB_spec : ∀ {l : List Nat}, pairsB ops (masks ops) l = true → l.Pairwise (fun p i => ∃ op oi, ops[p]? = some op ∧ ops[i]? = some oi ∧ (((masks ops).getD i 0).testBit p = true ∨ (op.apart ops.toArray oi = true ∧ isSp op = false)))
  | [], _ => List.Pairwise.nil
  | p :: rest, h => by
    simp only [pairsB, Bool.and_eq_true, List.all_eq_true] at h
    refine List.Pairwise.cons (fun i hi => ?_) (pairsB_spec h.2)
    have := h.1 i hi
    cases hp : ops[p]? with
    | none => simp [hp] at this
    | some op =>
      cases hq : ops[i]? with
      | none => simp [hp, hq] at this
      | some oi =>
        simp only [hp, hq, Bool.or_eq_true, Bool.and_eq_true, Bool.not_eq_true'] at this
        exact ⟨op, oi, rfl, rfl, this⟩

theorem getD_any {l : Array Bool} {i : Nat} (h : i < l.size) (b c : Bool) : l.getD i b = l.getD i c := by simp [Array.getD, h]
theorem filter_ne {l : List Nat} {i : Nat} (h : i ∉ l) : l.filter (fun k => k != i) = l :=
  List.filter_eq_self.2 fun k hk => by
    have : k ≠ i := fun e => h (e ▸ hk)
    simpa using this

theorem calls_main (hB : callsB ops π = true) : ∀ (cnt : Nat) (D : Nat → Bool) (listed : Array Bool) (a : Act) (w : World), listed.size = ops.length → (∀ i, D i = listed.getD i false) → Closed ops D →
    (π.filter (fun i => !D i)).length = cnt → Mem w0 X L w → seqR P w0 X L ops.toArray (fun a w => Mem w0 X L w → Q .normal a w) (π.filter (fun i => !D i)) a w → wpAny P .any ops.toArray Q cnt listed a w := by
  simp only [callsB, Bool.and_eq_true, decide_eq_true_eq, List.all_eq_true, List.mem_range] at hB
  obtain ⟨⟨⟨⟨⟨⟨hsel, h4⟩, hin⟩, hlt⟩, hnd⟩, hlen⟩, hpairs⟩ := hB
  have hback : ∀ j o, ops[j]? = some o → ∀ e ∈ o.after, Region.binds .any e = true → e.on < j := by
    intro j o hj e he hb
    have := h4 (o, j) (List.mem_zipIdx_iff_getElem?.2 (by simpa using hj))
    have := Array.all_eq_true_iff_forall_mem.1 this e he
    simpa [hb] using this
  have hpw := pairsB_spec hpairs
  have hmem : ∀ i, i < ops.length → i ∈ π := fun i hi => by have := hin i hi; simpa using this
  have hselo : ∀ (i : Nat) (o : Oper), ops.toArray[i]? = some o → ∀ cs b, o.op ≠ .select cs b := fun i o hi cs b => Region.noSelect_spec hsel i o cs b hi
  intro cnt
  induction cnt with
  | zero =>
    intro D listed a w hsz hDl hcl hcnt hM hs
    have hnil : π.filter (fun i => !D i) = [] := List.length_eq_zero_iff.1 hcnt
    rw [hnil] at hs
    refine ⟨?_, hs hM⟩
    apply List.eq_nil_iff_forall_not_mem.2
    intro i hi
    obtain ⟨h1, o, h2, _⟩ := mem_ready.1 hi
    have hi' : i < ops.length := by
      have := (Array.getElem?_eq_some_iff.1 h2).1
      simpa using this
    have := List.filter_eq_nil_iff.1 hnil i (hmem i hi')
    rw [hDl i, getD_any (by omega) false true, h1] at this
    simp at this
  | succ cnt ih =>
    intro D listed a w hsz hDl hcl hcnt hM hs
    have hgetT : ∀ i, i < ops.length → listed.getD i true = D i := by
      intro i hi
      rw [hDl i]
      exact getD_any (by omega) true false
    refine ⟨fun h0 => ?_, fun i hi => ?_⟩
    · exfalso
      have hpos : 0 < (π.filter (fun i => !D i)).length := by omega
      obtain ⟨i, hi⟩ := List.exists_mem_of_length_pos hpos
      rw [List.mem_filter] at hi
      have hex : ∃ i, i < ops.length ∧ D i = false := by
        refine ⟨i, ?_, by simpa using hi.2⟩
        exact hlt i hi.1
      have hleast : ∀ k i, i ≤ k → i < ops.length → D i = false → ∃ j, j < ops.length ∧ D j = false ∧ ∀ j', j' < j → D j' = true := by
        intro k
        induction k with
        | zero => intro i h1 h2 h3; exact ⟨i, h2, h3, fun j' hj' => by omega⟩
        | succ k ihk =>
          intro i h1 h2 h3
          by_cases hb : ∃ j', j' < i ∧ D j' = false
          · obtain ⟨j', g2, g3⟩ := hb
            exact ihk j' (by omega) (by omega) g3
          · refine ⟨i, h2, h3, fun j' hj' => ?_⟩
            cases hDj : D j' with
            | true => rfl
            | false => exact absurd ⟨j', hj', hDj⟩ hb
      obtain ⟨i, h2, h3⟩ := hex
      obtain ⟨j, g2, g3, g4⟩ := hleast i i (Nat.le_refl _) h2 h3
      have hj : ops[j]? = some ops[j] := List.getElem?_eq_getElem (by omega)
      have : j ∈ Region.ready .any ops.toArray listed := mem_ready.2 ⟨by rw [hgetT j g2]; exact g3, ops[j], by rw [List.getElem?_toArray]; exact hj, fun e he hb => by rw [← hDl]; exact g4 _ (hback j _ hj e he hb)⟩
      rw [h0] at this
      cases this
    · obtain ⟨h1, o, h2, h3⟩ := mem_ready.1 hi
      have hoi : ops[i]? = some o := by simpa using h2
      have hilen : i < ops.length := (List.getElem?_eq_some_iff.1 hoi).1
      have hDi : D i = false := by rw [← hgetT i hilen]; exact h1
      have hdeps : ∀ e ∈ o.after, Region.binds .any e = true → D e.on = true := fun e he hb => by rw [hDl]; exact h3 e he hb
      have hirem : i ∈ π.filter (fun i => !D i) := List.mem_filter.2 ⟨hmem i hilen, by simp [hDi]⟩
      obtain ⟨pre, post, hsplit⟩ := List.append_of_mem hirem
      have hndr : (π.filter (fun i => !D i)).Nodup := hnd.sublist List.filter_sublist
      have hpwr := hpw.sublist (List.filter_sublist (p := fun i => !D i))
      rw [hsplit] at hs hndr hpwr
      have hpre : ∀ p ∈ pre, ∃ op, ops.toArray[p]? = some op ∧ isSp op = false ∧ Off ops.toArray op o := by
        intro p hp
        have hpD : D p = false := by
          have : p ∈ π.filter (fun i => !D i) := by rw [hsplit]; simp [hp]
          simpa using (List.mem_filter.1 this).2
        obtain ⟨op, oi, g1, g2, g3⟩ := (List.pairwise_append.1 hpwr).2.2 p hp i (by simp)
        rw [hoi] at g2
        cases g2
        rcases g3 with g3 | ⟨g3, g4⟩
        · have := masks_spec hcl hoi hdeps g3
          rw [hpD] at this
          cases this
        · obtain ⟨e1, e2, e3⟩ := Oper.apart_spec g3
          exact ⟨op, by simpa using g1, g4, ⟨e1, e2, e3⟩⟩
      have hF := seq_move hselo h2 post pre a w hpre hs
      have hni : i ∉ pre ∧ i ∉ post := by
        rw [List.nodup_append] at hndr
        obtain ⟨_, n2, n3⟩ := hndr
        exact ⟨fun h => n3 i h i (by simp) rfl, (List.nodup_cons.1 n2).1⟩
      have hrem : π.filter (fun k => !also D i k) = pre ++ post := by
        have e1 : π.filter (fun k => !also D i k) = (π.filter (fun k => !D k)).filter (fun k => k != i) := by
          rw [List.filter_filter]
          refine List.filter_congr fun k _ => ?_
          simp only [also]
          cases hki : (k == i) <;> cases D k <;> simp_all
        rw [e1, hsplit, List.filter_append, List.filter_cons, filter_ne hni.1, filter_ne hni.2]
        simp
      have hl' : (listed.setIfInBounds i true).size = ops.length := by simp [hsz]
      have hD' : ∀ k, also D i k = (listed.setIfInBounds i true).getD k false := by
        intro k
        by_cases hk : k = i
        · subst hk; simp [also, hsz, hilen]
        · rw [getD_set_ne false (Ne.symm hk), ← hDl k]; simp [also, hk]
      have hcl' : Closed ops (also D i) := by
        intro j oj hj hDj e he hb
        by_cases hji : j = i
        · subst hji
          rw [hoi] at hj; cases hj
          simp [also, hdeps e he hb]
        · have : D j = true := by simpa [also, hji] using hDj
          simp [also, hcl j oj hj this e he hb]
      have hcnt' : (π.filter (fun k => !also D i k)).length = cnt := by
        rw [hrem]
        rw [hsplit] at hcnt
        simp at hcnt ⊢
        omega
      have hnext : ∀ v w', Mem w0 X L w' → seqR P w0 X L ops.toArray (fun a w => Mem w0 X L w → Q .normal a w) (pre ++ post) (a.put o.dst v) w' → wpAny P .any ops.toArray Q cnt (listed.setIfInBounds i true) (a.put o.dst v) w' :=
        fun v w' hM' hq => ih (also D i) _ _ w' hl' hD' hcl' hcnt' hM' (by rw [hrem]; exact hq)
      obtain ⟨o', ho', hF⟩ := hF
      rw [h2] at ho'
      cases ho'
      unfold wpOp
      simp only [h2]
      rcases hF with ⟨f1, f2⟩ | ⟨f1, _, f, args, f3, f4⟩ | ⟨f1, _, v, f3, f4⟩
      · rw [if_neg (by rw [f1]; simp)]
        exact hnext _ _ hM f2
      · rw [if_pos f1]
        refine .inl ?_
        unfold Oper.wp
        rw [f3]
        simp only [Oper.upon]
        refine f4.mono ?_
        rintro e w' ⟨v, rfl, hM', hq⟩
        exact hnext _ _ hM' hq
      · rw [if_pos f1]
        refine .inl ?_
        unfold Oper.wp
        rw [f3 w hM]
        simp only [Oper.upon]
        exact hnext _ _ hM f4

/-! ### The moves -/
structure SeqV (P : Program) (w0 : World) (X : List Nat) (L : List (Nat × Obj)) (ops : Array Oper) (F : Act → World → Prop) (l : List Oper) (a : Act) (w : World) : Prop where
  out : seqL P w0 X L ops F l a w

theorem C_region {a : Act} {w : World} (π : List Nat) (hB : callsB ops π = true) (M : Mem w0 X L w) (h : SeqV P w0 X L ops.toArray (fun a w => Mem w0 X L w → Q .normal a w) (π.filterMap fun i => ops[i]?) a w) :
    wpAny P .any ops.toArray Q (ops.length - 0) (upTo 0 ops.length) a w := by
  have hB0 := hB
  simp only [callsB, Bool.and_eq_true, decide_eq_true_eq, List.all_eq_true] at hB0
  have hlen : π.length = ops.length := hB0.1.2
  have hlt : ∀ i ∈ π, ∃ o, ops.toArray[i]? = some o := fun i hi => by
    have hi' : i < ops.length := hB0.1.1.1.2 i hi
    exact ⟨ops[i], by rw [List.getElem?_toArray]; exact List.getElem?_eq_getElem hi'⟩
  have hf : π.filter (fun i => !decide (i < 0)) = π := List.filter_eq_self.2 fun i _ => by simp
  refine calls_main (w0 := w0) (X := X) (L := L) hB (ops.length - 0) (fun i => decide (i < 0)) (upTo 0 ops.length) a w (upTo_size _ _) (fun i => (upTo_getD_false (by omega)).symm) ?_ (by rw [hf, hlen]; rfl) M
    (by rw [hf]; exact seqR_of_seqL π a w hlt (by simpa using h.out))
  intro j o _ hD
  simp at hD
end
section
variable {P : Program} {w0 : World} {X : List Nat} {L : List (Nat × Obj)} {A : Array Oper} {F : Act → World → Prop} {a : Act} {w : World} {rest : List Oper}
theorem C_nil (h : F a w) : SeqV P w0 X L A F [] a w := ⟨h⟩
theorem C_run {o : Oper} {v : Value} (hw : Region.wanted o (yielded A a.tmps) = true) (hs : isSp o = false) (hr : ∀ w, Mem w0 X L w → (execOp a.eval o).run P w = .ok (.value v) w)
    (k : SeqV P w0 X L A F rest (a.put o.dst v) w) : SeqV P w0 X L A F (o :: rest) a w := ⟨.inr (.inr ⟨hw, hs, v, hr, k.out⟩)⟩
theorem C_no {o : Oper} (hw : Region.wanted o (yielded A a.tmps) = false) (k : SeqV P w0 X L A F rest (a.put o.dst undef) w) : SeqV P w0 X L A F (o :: rest) a w := ⟨.inl ⟨hw, k.out⟩⟩
theorem C_call {dst : Option Tmp} {f : FuncId} {xs : List Operand} {ats : Array TypeId} {ty : TypeId} {pos : String} {after : Array Edge} {g : Option (Nat × Bool)} {fn : Func} {args : List Value}
    (hw : Region.wanted { dst := dst, op := .call { callee := .value (.func f), args := xs.toArray, argTypes := ats }, type := ty, pos := pos, after := after, guard := g } (yielded A a.tmps) = true)
    (hfn : P.funcs[f]? = some fn) (hn : (fn.name == "runtime.NumGoroutine") = false) (hb : fn.body.isNone = false) (hargs : xs.map a.eval = args)
    (hc : Calls P f args.toArray w fun e w' => ∃ v, e = .returned v ∧ Mem w0 X L w' ∧ SeqV P w0 X L A F rest (a.put dst v) w') :
    SeqV P w0 X L A F ({ dst := dst, op := .call { callee := .value (.func f), args := xs.toArray, argTypes := ats }, type := ty, pos := pos, after := after, guard := g } :: rest) a w := by
  refine ⟨.inr (.inl ⟨hw, rfl, f, args.toArray, fun w => ?_, hc.mono fun e w' ⟨v, h1, h2, h3⟩ => ⟨v, h1, h2, h3.out⟩⟩)⟩
  rw [execOp_call_go]
  have hn' : ¬ fn.name = "runtime.NumGoroutine" := by simpa using hn
  have hb' : ¬ fn.body = none := by intro h; simp [h] at hb
  simp [callFunc, Go.program, Sem.run, hfn, hn', hb', hargs]
end
end Go.Own

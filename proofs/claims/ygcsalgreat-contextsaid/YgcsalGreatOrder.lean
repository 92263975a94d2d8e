/-
  A region that draws its order, stage by stage. Operations of a stage may come in any order that their edges allow; whatever comes behind the stage waits for all of it.
  In a stage: operations that read, whose callees turn nothing that was there ('Gives'); then allocations. Behind the last: the frame of the text's order, the new variables at fresh blocks.
-/
import Derived.Test.YgcsalGreatBase
namespace Go.Own

/-! ### Which operations surely came before -/
def maskOf (acc : List Nat) (o : Oper) : Nat := o.after.toList.foldl (fun s e => if Region.binds .any e then s ||| 2 ^ e.on ||| acc.getD e.on 0 else s) 0
def masksGo : List Nat → List Oper → List Nat
  | acc, [] => acc
  | acc, o :: os => masksGo (acc ++ [maskOf acc o]) os
def masks (ops : List Oper) : List Nat := masksGo [] ops

def Closed (ops : List Oper) (D : Nat → Bool) : Prop := ∀ j o, ops[j]? = some o → D j = true → ∀ e ∈ o.after, Region.binds .any e = true → D e.on = true

theorem foldl_mask (acc : List Nat) (i : Nat) : ∀ (es : List Edge) (s : Nat), (es.foldl (fun s e => if Region.binds .any e then s ||| 2 ^ e.on ||| acc.getD e.on 0 else s) s).testBit i = true →
    s.testBit i = true ∨ ∃ e ∈ es, Region.binds .any e = true ∧ (e.on = i ∨ (acc.getD e.on 0).testBit i = true)
  | [], s, h => .inl h
  | e :: es, s, h => by
    simp only [List.foldl_cons] at h
    rcases foldl_mask acc i es _ h with h | ⟨e', he', hb, hi⟩
    · by_cases hbe : Region.binds .any e = true
      · rw [if_pos hbe] at h
        simp only [Nat.testBit_or, Bool.or_eq_true] at h
        rcases h with (h | h) | h
        · exact .inl h
        · refine .inr ⟨e, by simp, hbe, .inl ?_⟩
          rw [Nat.testBit_two_pow] at h
          simpa using h
        · exact .inr ⟨e, by simp, hbe, .inr h⟩
      · rw [if_neg hbe] at h; exact .inl h
    · exact .inr ⟨e', by simp [he'], hb, hi⟩

theorem masksGo_spec (ops : List Oper) (D : Nat → Bool) (hD : Closed ops D) : ∀ (os : List Oper) (acc : List Nat) (pre : List Oper), ops = pre ++ os → acc.length = pre.length →
    (∀ j o, pre[j]? = some o → (∀ e ∈ o.after, Region.binds .any e = true → D e.on = true) → ∀ i, (acc.getD j 0).testBit i = true → D i = true) →
    ∀ j o, ops[j]? = some o → (∀ e ∈ o.after, Region.binds .any e = true → D e.on = true) → ∀ i, ((masksGo acc os).getD j 0).testBit i = true → D i = true
  | [], acc, pre, he, hl, hacc, j, o, hj, hdeps, i, hi => by
    simp only [List.append_nil] at he
    subst he
    exact hacc j o hj hdeps i hi
  | o' :: os, acc, pre, he, hl, hacc, j, o, hj, hdeps, i, hi => by
    refine masksGo_spec ops D hD os (acc ++ [maskOf acc o']) (pre ++ [o']) (by simp [he]) (by simp [hl]) ?_ j o hj hdeps i hi
    intro j1 o1 hj1 hd1 i1 hi1
    rcases Nat.lt_or_ge j1 pre.length with hlt | hge
    · rw [List.getElem?_append_left hlt] at hj1
      rw [List.getD_eq_getElem?_getD, List.getElem?_append_left (by omega), ← List.getD_eq_getElem?_getD] at hi1
      exact hacc j1 o1 hj1 hd1 i1 hi1
    · rcases Nat.lt_or_ge pre.length j1 with hgt | hle
      · rw [List.getElem?_eq_none (by simp; omega)] at hj1; cases hj1
      · have hj' : j1 = pre.length := by omega
        subst hj'
        rw [List.getElem?_append_right (by omega)] at hj1
        simp at hj1
        subst hj1
        rw [List.getD_eq_getElem?_getD, List.getElem?_append_right (by omega)] at hi1
        simp [hl] at hi1
        unfold maskOf at hi1
        rcases foldl_mask acc i1 _ _ hi1 with h | ⟨e, hem, hb, hi⟩
        · simp at h
        · have hDe := hd1 e (by simpa using hem) hb
          rcases hi with rfl | hi
          · exact hDe
          · cases hp : pre[e.on]? with
            | none =>
              rw [List.getElem?_eq_none_iff] at hp
              rw [List.getD_eq_getElem?_getD, List.getElem?_eq_none (by omega)] at hi
              simp at hi
            | some oe =>
              have hops : ops[e.on]? = some oe := by
                rw [he, List.getElem?_append_left (by rw [List.getElem?_eq_some_iff] at hp; exact hp.1)]; exact hp
              exact hacc e.on oe hp (fun e' he' hb' => hD e.on oe hops hDe e' he' hb') i1 hi

/-- What a ready operation surely waited for has come up. -/
theorem masks_spec {ops : List Oper} {D : Nat → Bool} (hD : Closed ops D) {j : Nat} {o : Oper} (hj : ops[j]? = some o) (hdeps : ∀ e ∈ o.after, Region.binds .any e = true → D e.on = true) {i : Nat}
    (hi : ((masks ops).getD j 0).testBit i = true) : D i = true :=
  masksGo_spec ops D hD ops [] [] rfl rfl (by simp) j o hj hdeps i hi


/-! ### Frames: the puts of the operations that are done, in the text's order -/
def dstOf (ops : List Oper) (i : Nat) : Option Tmp := (ops[i]?).bind (·.dst)

theorem put_size (a : Act) (d : Option Tmp) (v : Value) : (a.put d v).tmps.size = a.tmps.size := by cases d <;> simp [Act.put]
theorem put_slot (a : Act) (d : Option Tmp) (v : Value) (t : Tmp) : (a.put d v).tmps[t]? = if d = some t ∧ t < a.tmps.size then some v else a.tmps[t]? := by
  cases d with
  | none => simp [Act.put]
  | some d =>
    simp only [Act.put, Array.getElem?_setIfInBounds, Option.some.injEq]
    by_cases h : d = t
    · subst h
      by_cases hs : d < a.tmps.size
      · simp [hs]
      · simp [hs]
    · simp [h]

def puts (ops : List Oper) (val : Nat → Value) (D : Nat → Bool) : List Nat → Act → Act
  | [], a => a
  | i :: l, a => puts ops val D l (if D i then a.put (dstOf ops i) (val i) else a)

theorem puts_append (ops : List Oper) (val : Nat → Value) (D : Nat → Bool) : ∀ (l l' : List Nat) (a : Act), puts ops val D (l ++ l') a = puts ops val D l' (puts ops val D l a)
  | [], _, _ => rfl
  | i :: l, l', a => by simp only [List.cons_append, puts]; exact puts_append ops val D l l' _

theorem puts_size (ops : List Oper) (val : Nat → Value) (D : Nat → Bool) : ∀ (l : List Nat) (a : Act), (puts ops val D l a).tmps.size = a.tmps.size
  | [], _ => rfl
  | i :: l, a => by rw [puts, puts_size ops val D l]; split <;> simp [put_size]

theorem puts_slot (ops : List Oper) (val val' : Nat → Value) (D D' : Nat → Bool) (t : Tmp) : ∀ (l : List Nat) (a a' : Act), a.tmps.size = a'.tmps.size → a.tmps[t]? = a'.tmps[t]? →
    (∀ i ∈ l, dstOf ops i = some t → D i = D' i ∧ (D i = true → val i = val' i)) → (puts ops val D l a).tmps[t]? = (puts ops val' D' l a').tmps[t]?
  | [], _, _, _, h, _ => h
  | i :: l, a, a', hs, h, hl => by
    simp only [puts]
    refine puts_slot ops val val' D D' t l _ _ ?_ ?_ (fun j hj => hl j (by simp [hj]))
    · split <;> split <;> simp [put_size, hs]
    · by_cases hd : dstOf ops i = some t
      · obtain ⟨h1, h2⟩ := hl i (by simp) hd
        rw [← h1]
        by_cases hD : D i = true
        · simp only [hD, if_true, put_slot, hd, hs, h2 hD, h]
        · simp only [hD, if_false, h, Bool.false_eq_true]
      · have : ∀ (b : Act) (v : Value), (b.put (dstOf ops i) v).tmps[t]? = b.tmps[t]? := fun b v => by rw [put_slot, if_neg (by simp [hd])]
        split <;> split <;> simp [this, h]

theorem puts_congr (ops : List Oper) (val val' : Nat → Value) (D D' : Nat → Bool) : ∀ (l : List Nat) (a : Act), (∀ i ∈ l, D i = D' i ∧ (D i = true → val i = val' i)) → puts ops val D l a = puts ops val' D' l a
  | [], _, _ => rfl
  | i :: l, a, h => by
    simp only [puts]
    obtain ⟨h1, h2⟩ := h i (by simp)
    rw [puts_congr ops val val' D D' l _ (fun j hj => h j (by simp [hj])), ← h1]
    by_cases hD : D i = true
    · simp only [hD, if_true, h2 hD]
    · simp only [hD, if_false, Bool.false_eq_true]

theorem puts_put (ops : List Oper) (val : Nat → Value) (D : Nat → Bool) (d : Option Tmp) (v : Value) : ∀ (l : List Nat) (a : Act), (∀ j ∈ l, D j = true → ∀ t, d = some t → dstOf ops j ≠ some t) →
    puts ops val D l (a.put d v) = (puts ops val D l a).put d v
  | [], _, _ => rfl
  | j :: l, a, h => by
    simp only [puts]
    by_cases hD : D j = true
    · simp only [hD, if_true]
      rw [Act.put_comm a v (val j) (fun t ht => h j (by simp) hD t ht)]
      exact puts_put ops val D d v l _ (fun k hk => h k (by simp [hk]))
    · simp only [hD, if_false, Bool.false_eq_true]
      exact puts_put ops val D d v l _ (fun k hk => h k (by simp [hk]))

def also (D : Nat → Bool) (i : Nat) : Nat → Bool := fun k => k == i || D k

theorem puts_add (ops : List Oper) (val : Nat → Value) (D : Nat → Bool) (i : Nat) : ∀ (l : List Nat) (a : Act), i ∈ l → l.Pairwise (· < ·) → D i = false →
    (∀ j ∈ l, i < j → D j = true → ∀ t, dstOf ops i = some t → dstOf ops j ≠ some t) → puts ops val (also D i) l a = (puts ops val D l a).put (dstOf ops i) (val i)
  | [], _, h, _, _, _ => by cases h
  | k :: l, a, h, hp, hD, hc => by
    simp only [puts]
    rw [List.pairwise_cons] at hp
    by_cases hk : k = i
    · subst hk
      have h1 : also D k k = true := by simp [also]
      simp only [h1, if_true, hD, if_false, Bool.false_eq_true]
      rw [puts_congr ops val val (also D k) D l _ (fun j hj => ⟨by have := hp.1 j hj; simp [also]; omega, fun _ => rfl⟩)]
      exact puts_put ops val D _ _ l a (fun j hj hDj => hc j (by simp [hj]) (hp.1 j hj) hDj)
    · have h1 : also D i k = D k := by simp [also, hk]
      simp only [h1]
      rcases List.mem_cons.1 h with h | h
      · exact absurd h.symm hk
      · exact puts_add ops val D i l _ h hp.2 hD (fun j hj => hc j (by simp [hj]))


/-! ### What an operation gives -/
section
variable (P : Program) (w0 : World) (X : List Nat) (L : List (Nat × Obj))

def GivesR (v : Value) (w : World) : Result Next → Prop
  | .ok (.value u) w' => u = v ∧ Kept [] w w'
  | .ok .skip w' => v = undef ∧ Kept [] w w'
  | .ok (.enter f args) w' => Kept [] w w' ∧ Calls P f args w' (fun e w'' => e = .returned v ∧ Kept [] w' w'')
  | _ => False

def Gives (ρ : Operand → Value) (o : Oper) (v : Value) : Prop := ∀ w, Mem w0 X L w → GivesR P v w ((execOp ρ o).run P w)

/-- The walk in the text's order. -/
def lexQ (ops : Array Oper) (F : Act → Prop) : List Oper → Act → Prop
  | [], a => F a
  | o :: rest, a => if Region.wanted o (yielded ops a.tmps) = true then ∃ v, Gives P w0 X L a.eval o v ∧ lexQ ops F rest (a.put o.dst v) else lexQ ops F rest (a.put o.dst undef)
end

section
variable {P : Program} {w0 : World} {X : List Nat} {L : List (Nat × Obj)} {Q : Exit → Act → World → Prop}

theorem wp_of_gives {o : Oper} {a : Act} {v : Value} {w : World} {K : Act → World → Prop} (h : GivesR P v w ((execOp a.eval o).run P w)) (hK : ∀ w', Kept [] w w' → K (a.put o.dst v) w') : o.wp P a w K Q := by
  unfold Oper.wp
  generalize (execOp a.eval o).run P w = r at *
  cases r with
  | ok n w' =>
    cases n <;> simp only [GivesR] at h <;> simp only [Oper.upon]
    case value u => rw [h.1]; exact hK w' h.2
    case skip => rw [← h.1]; exact hK w' h.2
    case enter f args => exact h.2.mono fun e w'' ⟨he, hk⟩ => by subst he; exact hK _ (h.1.trans hk)
  | halt x w' => simp only [GivesR] at h

/-- What the text's order gave of operation number i. -/
def OpGave (P : Program) (w0 : World) (X : List Nat) (L : List (Nat × Obj)) (ops : Array Oper) (o : Oper) (a : Act) (v : Value) : Prop :=
  (Region.wanted o (yielded ops a.tmps) = true ∧ Gives P w0 X L a.eval o v) ∨ (Region.wanted o (yielded ops a.tmps) = false ∧ v = undef)

theorem lexQ_vals {ops : List Oper} {F : Act → Prop} : ∀ (l : List Oper) (m : Nat) (a : Act), (∀ j, j < l.length → ops[m + j]? = l[j]?) → lexQ P w0 X L ops.toArray F l a →
    ∃ vals : Nat → Value, (∀ j o, l[j]? = some o → OpGave P w0 X L ops.toArray o (puts ops vals (fun _ => true) (List.range' m j) a) (vals (m + j))) ∧ F (puts ops vals (fun _ => true) (List.range' m l.length) a)
  | [], m, a, _, h => ⟨fun _ => undef, by simp, h⟩
  | o :: l, m, a, hl, h => by
    have h0 : ops[m]? = some o := by simpa using hl 0 (by simp)
    have hstep : ∃ v, OpGave P w0 X L ops.toArray o a v ∧ lexQ P w0 X L ops.toArray F l (a.put o.dst v) := by
      rw [lexQ] at h
      by_cases hw : Region.wanted o (yielded ops.toArray a.tmps) = true
      · rw [if_pos hw] at h; obtain ⟨v, h1, h2⟩ := h; exact ⟨v, .inl ⟨hw, h1⟩, h2⟩
      · rw [if_neg hw] at h; exact ⟨undef, .inr ⟨by simpa using hw, rfl⟩, h⟩
    obtain ⟨v, hg, hrest⟩ := hstep
    obtain ⟨vals, hv, hF⟩ := lexQ_vals l (m + 1) (a.put o.dst v) (fun j hj => by have := hl (j + 1) (by simpa using hj); simpa [Nat.add_assoc, Nat.add_comm 1 j] using this) hrest
    have hd : dstOf ops m = o.dst := by simp [dstOf, h0]
    refine ⟨fun k => if k = m then v else vals k, ?_, ?_⟩
    · intro j o' hj
      match j with
      | 0 =>
        simp at hj; subst hj
        simpa [List.range', puts] using hg
      | j + 1 =>
        have := hv j o' (by simpa using hj)
        rw [List.range'_succ, puts]
        simp only [if_true, hd]
        rw [puts_congr ops _ vals _ (fun _ => true) (List.range' (m + 1) j) _ (fun k hk => ⟨rfl, fun _ => by simp only [List.mem_range'_1] at hk; rw [if_neg (by omega)]⟩)]
        rw [if_neg (by omega), show m + (j + 1) = m + 1 + j from by omega]
        exact this
    · simp only [List.length_cons]
      rw [List.range'_succ, puts]
      simp only [if_true, hd]
      rw [puts_congr ops _ vals _ (fun _ => true) (List.range' (m + 1) l.length) _ (fun k hk => ⟨rfl, fun _ => by simp only [List.mem_range'_1] at hk; rw [if_neg (by omega)]⟩)]
      exact hF
end


/-! ### A stage -/
def stageB (ops : List Oper) (m m2 : Nat) : Bool :=
  let ms := masks ops
  decide (m2 ≤ ops.length) && decide (m ≤ m2) && Region.noSelect ops.toArray &&
  (ops.zipIdx.all fun p => p.1.after.all fun e => !Region.binds .any e || decide (e.on < p.2)) &&
  ((List.range' m (m2 - m)).all fun j => match ops[j]? with
    | none => false
    | some oj => (List.range' m (j - m)).all fun i => match ops[i]? with
      | none => false
      | some oi => oi.apart ops.toArray oj || (ms.getD j 0).testBit i) &&
  ((List.range' m2 (ops.length - m2)).all fun j => (List.range' m (m2 - m)).all fun i => (ms.getD j 0).testBit i)

def upTo (m n : Nat) : Array Bool := ((List.range n).map fun i => decide (i < m)).toArray

def allocsB (P : Program) (ops : List Oper) (z : Nat → Obj) (m1 m2 : Nat) : Prop :=
  ∀ i, m1 ≤ i → i < m2 → ∃ (d : Tmp) (t ty : TypeId) (pos : String) (after : Array Edge) (zv : Value),
    ops[i]? = some { dst := some d, op := .alloc t, type := ty, pos := pos, after := after, guard := none } ∧ (P.info? t).bind (·.zero) = some zv ∧ z i = .cells zv.cells t (0, 0)

def newRows (z : Nat → Obj) (bl : Nat → Nat) (l : List Nat) : List (Nat × Obj) := (l.map fun i => (bl i, z i)).reverse

theorem Mem.perm {w0 w : World} {X : List Nat} {L L' : List (Nat × Obj)} (M : Mem w0 X L w) (h : L.Perm L') : Mem w0 X L' w :=
  ⟨M.kept, fun p hp => M.rows p (h.symm.subset hp), (h.map _).pairwise M.apart (fun h => Ne.symm h)⟩

theorem filter_also {D : Nat → Bool} {i : Nat} : ∀ (l : List Nat), i ∈ l → l.Pairwise (· < ·) → D i = false → (l.filter (also D i)).Perm (i :: l.filter D)
  | [], h, _, _ => by cases h
  | k :: l, h, hp, hD => by
    rw [List.pairwise_cons] at hp
    by_cases hk : k = i
    · subst hk
      have h1 : also D k k = true := by simp [also]
      have h2 : l.filter (also D k) = l.filter D := List.filter_congr fun j hj => by have := hp.1 j hj; simp [also]; omega
      simp [h1, hD, h2]
    · have h1 : also D i k = D k := by simp [also, hk]
      rcases List.mem_cons.1 h with h | h
      · exact absurd h.symm hk
      · have ih := filter_also l h hp.2 hD
        simp only [List.filter_cons, h1]
        split
        · exact (ih.cons k).trans (List.Perm.swap _ _ _)
        · exact ih

theorem filter_not_also {D : Nat → Bool} {i : Nat} : ∀ (l : List Nat), i ∈ l → l.Pairwise (· < ·) → D i = false → (l.filter (fun k => !D k)).length = (l.filter (fun k => !also D i k)).length + 1
  | [], h, _, _ => by cases h
  | k :: l, h, hp, hD => by
    rw [List.pairwise_cons] at hp
    by_cases hk : k = i
    · subst hk
      have h1 : also D k k = true := by simp [also]
      have h2 : l.filter (fun j => !also D k j) = l.filter (fun j => !D j) := List.filter_congr fun j hj => by have := hp.1 j hj; simp [also]; omega
      simp [h1, hD, h2]
    · have h1 : also D i k = D k := by simp [also, hk]
      rcases List.mem_cons.1 h with h | h
      · exact absurd h.symm hk
      · have ih := filter_not_also l h hp.2 hD
        simp only [List.filter_cons, h1]
        split
        · simp [ih]
        · exact ih

section
variable {P : Program} {w0 : World} {X : List Nat} {L : List (Nat × Obj)} {Q : Exit → Act → World → Prop} {ops : List Oper} {a0 : Act} {m m1 m2 : Nat} {z : Nat → Obj} {vals : Nat → Value}

theorem stageB_spec (h : stageB ops m m2 = true) : m2 ≤ ops.length ∧ m ≤ m2 ∧ Region.noSelect ops.toArray = true ∧
    (∀ j o, ops[j]? = some o → ∀ e ∈ o.after, Region.binds .any e = true → e.on < j) ∧
    (∀ i j oi oj, m ≤ i → i < j → j < m2 → ops[i]? = some oi → ops[j]? = some oj → oi.apart ops.toArray oj = true ∨ ((masks ops).getD j 0).testBit i = true) ∧
    (∀ i j, m ≤ i → i < m2 → m2 ≤ j → j < ops.length → ((masks ops).getD j 0).testBit i = true) := by
  simp only [stageB, Bool.and_eq_true, decide_eq_true_eq, List.all_eq_true, List.mem_range'_1] at h
  obtain ⟨⟨⟨⟨⟨h1, h2⟩, h3⟩, h4⟩, h5⟩, h6⟩ := h
  refine ⟨h1, h2, h3, ?_, ?_, ?_⟩
  · intro j o hj e he hb
    have := h4 (o, j) (List.mem_zipIdx_iff_getElem?.2 (by simpa using hj))
    have := Array.all_eq_true_iff_forall_mem.1 this e he
    simpa [hb] using this
  · intro i j oi oj hi hij hj hoi hoj
    have h7 := h5 j ⟨by omega, by omega⟩
    simp only [hoj, List.all_eq_true, List.mem_range'_1] at h7
    have := h7 i ⟨hi, by omega⟩
    simpa [hoi] using this
  · intro i j hi hi2 hj hjn
    exact h6 j ⟨hj, by omega⟩ i ⟨hi, by omega⟩

theorem eval_of_slots {a a' : Act} {o : Oper} {ops : Array Oper} (h : ∀ t ∈ o.looksAt ops, a.tmps[t]? = a'.tmps[t]?) : ∀ x ∈ o.op.operands, a.eval x = a'.eval x := by
  intro x hx
  cases x with
  | tmp t =>
    have := h t (List.mem_append_left _ (List.mem_filterMap.2 ⟨.tmp t, by simpa using hx, rfl⟩))
    simp [Act.eval, this]
  | _ => rfl

theorem wanted_of_slots {a a' : Act} {o : Oper} {ops : Array Oper} (h : ∀ t ∈ o.looksAt ops, a.tmps[t]? = a'.tmps[t]?) : Region.wanted o (yielded ops a.tmps) = Region.wanted o (yielded ops a'.tmps) := by
  unfold Region.wanted
  split
  · rfl
  · rename_i j want hg
    have : yielded ops a.tmps j = yielded ops a'.tmps j := by
      unfold yielded
      cases hd : (ops[j]?).bind (·.dst) with
      | none => rfl
      | some t =>
        have := h t (List.mem_append_right _ (by simp [hg, hd]))
        simp [this]
    rw [this]

theorem stage_main (hB : stageB ops m m2 = true) (hm : m ≤ m1) (hm1 : m1 ≤ m2) (hz : allocsB P ops z m1 m2)
    (hvals : ∀ i o, m ≤ i → i < m1 → ops[i]? = some o → OpGave P w0 X L ops.toArray o (puts ops vals (fun _ => true) (List.range' m (i - m)) a0) (vals i))
    (hF : ∀ (bl : Nat → Nat) (w' : World), (∀ i, m1 ≤ i → i < m2 → w0.heap.size ≤ bl i) → Mem w0 X (newRows z bl (List.range' m1 (m2 - m1)) ++ L) w' →
      wpAny P .any ops.toArray Q (ops.length - m2) (upTo m2 ops.length) (puts ops (fun i => .pointer (some ⟨bl i, 0, none⟩)) (fun _ => true) (List.range' m1 (m2 - m1)) (puts ops vals (fun _ => true) (List.range' m (m1 - m)) a0)) w') :
    ∀ (cnt : Nat) (D : Nat → Bool) (listed : Array Bool) (a : Act) (w : World) (val : Nat → Value) (bl : Nat → Nat), listed.size = ops.length → (∀ i, D i = listed.getD i false) → (∀ i, i < m → D i = true) → (∀ i, m2 ≤ i → D i = false) →
      Closed ops D → ((List.range' m (m2 - m)).filter (fun i => !D i)).length = cnt → (∀ i, m ≤ i → i < m1 → val i = vals i) →
      (∀ i, m1 ≤ i → i < m2 → D i = true → val i = .pointer (some ⟨bl i, 0, none⟩) ∧ w0.heap.size ≤ bl i) → a = puts ops val D (List.range' m (m2 - m)) a0 →
      Mem w0 X (newRows z bl ((List.range' m1 (m2 - m1)).filter D) ++ L) w → wpAny P .any ops.toArray Q (cnt + (ops.length - m2)) listed a w := by
  obtain ⟨hlen, hmm2, hsel, hback, hap, hbar⟩ := stageB_spec hB
  intro cnt
  induction cnt with
  | zero =>
    intro D listed a w val bl hsz hDl hlow hhigh hcl hcnt hval hbl ha hM
    have hall : ∀ i, m ≤ i → i < m2 → D i = true := by
      intro i h1 h2
      have : (List.range' m (m2 - m)).filter (fun i => !D i) = [] := List.length_eq_zero_iff.1 hcnt
      have := List.filter_eq_nil_iff.1 this i (by simp [List.mem_range'_1]; omega)
      simpa using this
    have hlisted : listed = upTo m2 ops.length := by
      apply Array.ext_getElem?
      intro i
      by_cases hi : i < ops.length
      · have h1 := hDl i
        simp only [upTo, List.getElem?_toArray, List.getElem?_map, List.getElem?_range hi, Option.map_some]
        rw [Array.getElem?_eq_getElem (by omega)]
        rw [Array.getD_eq_getD_getElem?, Array.getElem?_eq_getElem (by omega)] at h1
        simp only [Option.getD_some] at h1
        rw [← h1]
        by_cases hi2 : i < m2
        · by_cases him : i < m
          · simp [hlow i him, hi2]
          · simp [hall i (by omega) hi2, hi2]
        · simp [hhigh i (by omega), hi2]
      · simp only [upTo, List.getElem?_toArray, List.getElem?_map]
        rw [Array.getElem?_eq_none (by omega), List.getElem?_eq_none (by simp; omega)]
        rfl
    have hfilter : (List.range' m1 (m2 - m1)).filter D = List.range' m1 (m2 - m1) :=
      List.filter_eq_self.2 fun i hi => by simp only [List.mem_range'_1] at hi; exact hall i (by omega) (by omega)
    rw [hfilter] at hM
    have key := hF bl w (fun i h1 h2 => (hbl i h1 h2 (hall i (by omega) h2)).2) hM
    rw [Nat.zero_add, hlisted]
    have ha' : a = puts ops (fun i => .pointer (some ⟨bl i, 0, none⟩)) (fun _ => true) (List.range' m1 (m2 - m1)) (puts ops vals (fun _ => true) (List.range' m (m1 - m)) a0) := by
      rw [ha]
      have hsplit : List.range' m (m2 - m) = List.range' m (m1 - m) ++ List.range' m1 (m2 - m1) := by
        have := List.range'_append_1 (s := m) (m := m1 - m) (n := m2 - m1)
        rw [show m + (m1 - m) = m1 from by omega, show m1 - m + (m2 - m1) = m2 - m from by omega] at this
        exact this.symm
      rw [hsplit, puts_append]
      rw [puts_congr ops val vals D (fun _ => true) (List.range' m (m1 - m)) a0 (fun i hi => by
        simp only [List.mem_range'_1] at hi; exact ⟨hall i (by omega) (by omega), fun _ => hval i (by omega) (by omega)⟩)]
      exact puts_congr ops val _ D (fun _ => true) (List.range' m1 (m2 - m1)) _ (fun i hi => by
        simp only [List.mem_range'_1] at hi; exact ⟨hall i (by omega) (by omega), fun h => (hbl i (by omega) (by omega) h).1⟩)
    rw [ha']
    exact key
  | succ cnt ih =>
    intro D listed a w val bl hsz hDl hlow hhigh hcl hcnt hval hbl ha hM
    have hgetT : ∀ i, i < ops.length → listed.getD i true = D i := by
      intro i hi
      rw [hDl i, Array.getD_eq_getD_getElem?, Array.getD_eq_getD_getElem?, Array.getElem?_eq_getElem (by omega)]
      simp
    rw [show cnt + 1 + (ops.length - m2) = (cnt + (ops.length - m2)) + 1 from by omega]
    have hready : ∀ i, i ∈ Region.ready .any ops.toArray listed ↔ i < ops.length ∧ D i = false ∧ ∃ o, ops[i]? = some o ∧ ∀ e ∈ o.after, Region.binds .any e = true → D e.on = true := by
      intro i
      rw [mem_ready]
      constructor
      · rintro ⟨h1, o, h2, h3⟩
        have h2' : ops[i]? = some o := by simpa using h2
        have hi : i < ops.length := (List.getElem?_eq_some_iff.1 h2').1
        exact ⟨hi, by rw [← hgetT i hi]; exact h1, o, h2', fun e he hb => by rw [hDl]; exact h3 e he hb⟩
      · rintro ⟨hi, h1, o, h2, h3⟩
        exact ⟨by rw [hgetT i hi]; exact h1, o, by simpa using h2, fun e he hb => by rw [← hDl]; exact h3 e he hb⟩
    refine ⟨fun h0 => ?_, fun i hi => ?_⟩
    · -- some operation of the stage is ready
      exfalso
      have hex : ∃ i, m ≤ i ∧ i < m2 ∧ D i = false := by
        have : 0 < ((List.range' m (m2 - m)).filter (fun i => !D i)).length := by omega
        obtain ⟨i, hi⟩ := List.exists_mem_of_length_pos this
        rw [List.mem_filter, List.mem_range'_1] at hi
        exact ⟨i, by omega, by omega, by simpa using hi.2⟩
      -- the least one
      have hleast : ∀ k i, i ≤ m + k → m ≤ i → i < m2 → D i = false → ∃ j, m ≤ j ∧ j < m2 ∧ D j = false ∧ ∀ j', j' < j → D j' = true := by
        intro k
        induction k with
        | zero => intro i h1 h2 h3 h4; exact ⟨i, h2, h3, h4, fun j' hj' => hlow j' (by omega)⟩
        | succ k ihk =>
          intro i h1 h2 h3 h4
          by_cases hb : ∃ j', m ≤ j' ∧ j' < i ∧ D j' = false
          · obtain ⟨j', g1, g2, g3⟩ := hb
            exact ihk j' (by omega) g1 (by omega) g3
          · refine ⟨i, h2, h3, h4, fun j' hj' => ?_⟩
            by_cases hjm : j' < m
            · exact hlow j' hjm
            · cases hDj : D j' with
              | true => rfl
              | false => exact absurd ⟨j', by omega, hj', hDj⟩ hb
      obtain ⟨i, h1, h2, h3⟩ := hex
      obtain ⟨j, g1, g2, g3, g4⟩ := hleast (i - m) i (by omega) h1 h2 h3
      have hj : ops[j]? = some ops[j] := List.getElem?_eq_getElem (by omega)
      have := (hready j).2 ⟨by omega, g3, _, hj, fun e he hb => g4 _ (hback j _ hj e he hb)⟩
      rw [h0] at this
      cases this
    · obtain ⟨hilen, hDi, o, hoi, hdeps⟩ := (hready i).1 hi
      have him : m ≤ i := by
        rcases Nat.lt_or_ge i m with h | h
        · rw [hlow i h] at hDi; cases hDi
        · exact h
      have hi2 : i < m2 := by
        rcases Nat.lt_or_ge i m2 with h | h
        · exact h
        · exfalso
          have hpos : 0 < ((List.range' m (m2 - m)).filter (fun i => !D i)).length := by omega
          obtain ⟨j, hj⟩ := List.exists_mem_of_length_pos hpos
          rw [List.mem_filter, List.mem_range'_1] at hj
          have := masks_spec hcl hoi hdeps (hbar j i (by omega) (by omega) h hilen)
          simp [this] at hj
      -- the new state
      have hl' : (listed.setIfInBounds i true).size = ops.length := by simp [hsz]
      have hD' : ∀ k, also D i k = (listed.setIfInBounds i true).getD k false := by
        intro k
        by_cases hk : k = i
        · subst hk; simp [also, hsz, hilen]
        · rw [getD_set_ne false (Ne.symm hk), ← hDl k]; simp [also, hk]
      have hlow' : ∀ k, k < m → also D i k = true := fun k hk => by simp [also, hlow k hk]
      have hhigh' : ∀ k, m2 ≤ k → also D i k = false := fun k hk => by simp [also, hhigh k hk]; omega
      have hcl' : Closed ops (also D i) := by
        intro j oj hj hDj e he hb
        by_cases hji : j = i
        · subst hji
          rw [hoi] at hj; cases hj
          simp [also, hdeps e he hb]
        · have : D j = true := by simpa [also, hji] using hDj
          simp [also, hcl j oj hj this e he hb]
      have hcnt' : ((List.range' m (m2 - m)).filter (fun k => !also D i k)).length = cnt := by
        have := filter_not_also (D := D) (i := i) (List.range' m (m2 - m)) (by simp [List.mem_range'_1]; omega) (List.pairwise_lt_range') hDi
        omega
      -- writers of a slot that o looks at
      have hslots : ∀ t ∈ o.looksAt ops.toArray, ∀ k, m ≤ k → k < m2 → dstOf ops k = some t → D k = decide (k < i) := by
        intro t ht k hk1 hk2 hdk
        have hok : ops[k]? = some ops[k] := List.getElem?_eq_getElem (by omega)
        have hdk' : ops[k].dst = some t := by simpa [dstOf, hok] using hdk
        rcases Nat.lt_trichotomy k i with h | h | h
        · rcases hap k i _ o hk1 h hi2 hok hoi with h' | h'
          · exact absurd ht ((Oper.apart_spec h').1 t hdk')
          · simp [masks_spec hcl hoi hdeps h', h]
        · subst h; simp [hDi]
        · have hDk : D k = false := by
            cases hDk : D k with
            | false => rfl
            | true =>
              rcases hap i k o _ him h hk2 hoi hok with h' | h'
              · exact absurd ht ((Oper.apart_spec h').2.2 t hdk')
              · have := masks_spec hcl hok (fun e he hb => hcl k _ hok hDk e he hb) h'
                rw [this] at hDi; cases hDi
          simp [hDk]; omega
      have hnodst : ∀ j ∈ List.range' m (m2 - m), i < j → D j = true → ∀ t, dstOf ops i = some t → dstOf ops j ≠ some t := by
        intro j hj hij hDj t ht hdj
        rw [List.mem_range'_1] at hj
        have hoj : ops[j]? = some ops[j] := List.getElem?_eq_getElem (by omega)
        have hdj' : ops[j].dst = some t := by simpa [dstOf, hoj] using hdj
        have hdi' : o.dst = some t := by simpa [dstOf, hoi] using ht
        rcases hap i j o _ him hij (by omega) hoi hoj with h' | h'
        · exact (Oper.apart_spec h').2.1 t hdi' hdj'
        · have := masks_spec hcl hoj (fun e he hb => hcl j _ hoj hDj e he hb) h'
          rw [this] at hDi; cases hDi
      have hdsti : dstOf ops i = o.dst := by simp [dstOf, hoi]
      by_cases hi1 : i < m1
      · -- a quiet operation
        have hg := hvals i o him hi1 hoi
        have hsame : ∀ t ∈ o.looksAt ops.toArray, a.tmps[t]? = (puts ops vals (fun _ => true) (List.range' m (i - m)) a0).tmps[t]? := by
          intro t ht
          have e1 : puts ops vals (fun _ => true) (List.range' m (i - m)) a0 = puts ops vals (fun k => decide (k < i)) (List.range' m (m2 - m)) a0 := by
            have hsplit : List.range' m (m2 - m) = List.range' m (i - m) ++ List.range' i (m2 - i) := by
              have := List.range'_append_1 (s := m) (m := i - m) (n := m2 - i)
              rw [show m + (i - m) = i from by omega, show i - m + (m2 - i) = m2 - m from by omega] at this
              exact this.symm
            rw [hsplit, puts_append]
            rw [puts_congr ops vals vals (fun k => decide (k < i)) (fun _ => true) (List.range' m (i - m)) a0 (fun k hk => by
              rw [List.mem_range'_1] at hk; exact ⟨by simp; omega, fun _ => rfl⟩)]
            have hnone : ∀ (l : List Nat) (b : Act), (∀ k ∈ l, i ≤ k) → puts ops vals (fun k => decide (k < i)) l b = b := by
              intro l
              induction l with
              | nil => intro b _; rfl
              | cons k l ihl => intro b hb; rw [puts, if_neg (by have := hb k (by simp); simp; omega)]; exact ihl b (fun k' hk' => hb k' (by simp [hk']))
            rw [hnone _ _ (fun k hk => by rw [List.mem_range'_1] at hk; omega)]
          rw [ha, e1]
          refine puts_slot ops val vals D _ t _ a0 a0 rfl rfl (fun k hk hdk => ?_)
          rw [List.mem_range'_1] at hk
          have h1 := hslots t ht k (by omega) (by omega) hdk
          refine ⟨h1, fun hDk => hval k (by omega) ?_⟩
          rw [h1] at hDk
          have : k < i := by simpa using hDk
          omega
        have hw := wanted_of_slots (a := a) (a' := puts ops vals (fun _ => true) (List.range' m (i - m)) a0) hsame
        have hx : execOp a.eval o = execOp (puts ops vals (fun _ => true) (List.range' m (i - m)) a0).eval o :=
          execOp_congr o (fun cs b => Region.noSelect_spec hsel i o cs b (by simpa using hoi)) (eval_of_slots hsame)
        have hrest : ∀ w', Kept [] w w' → wpAny P .any ops.toArray Q (cnt + (ops.length - m2)) (listed.setIfInBounds i true) (a.put o.dst (vals i)) w' := by
          intro w' hk
          refine ih (also D i) _ _ w' val bl hl' hD' hlow' hhigh' hcl' hcnt' hval (fun k h1 h2 h3 => hbl k h1 h2 ?_) ?_ ?_
          · have : k ≠ i := by omega
            simpa [also, this] using h3
          · rw [puts_add ops val D i _ a0 (by simp [List.mem_range'_1]; omega) (List.pairwise_lt_range') hDi hnodst, ← ha, hval i him hi1, hdsti]
          · have : (List.range' m1 (m2 - m1)).filter (also D i) = (List.range' m1 (m2 - m1)).filter D :=
              List.filter_congr fun k hk => by rw [List.mem_range'_1] at hk; simp [also]; omega
            rw [this]
            exact hM.call hk
        unfold wpOp
        simp only [List.getElem?_toArray, hoi]
        rcases hg with ⟨hwt, hgv⟩ | ⟨hwf, hv⟩
        · rw [if_pos (by rw [hw]; exact hwt)]
          refine .inl (wp_of_gives (v := vals i) ?_ hrest)
          rw [hx]
          exact hgv w (hM.sub (List.sublist_append_right _ _))
        · rw [if_neg (by rw [hw, hwf]; simp)]
          rw [← hv]
          exact hrest w (Kept.refl _ _)
      · -- an allocation
        obtain ⟨d, t, ty, pos, after, zv, hop, hzv, hzi⟩ := hz i (by omega) hi2
        rw [hoi] at hop
        cases hop
        have ⟨hs1, hM1⟩ := hM.alloc (z i)
        unfold wpOp
        simp only [List.getElem?_toArray, hoi]
        rw [if_pos (by simp [Region.wanted])]
        refine .inl ?_
        have hrun : (execOp a.eval { dst := some d, op := .alloc t, type := ty, pos := pos, after := after, guard := none }).run P w = .ok (.value (.pointer (some ⟨w.heap.size, 0, none⟩))) { w with heap := w.heap.push (z i) } := by
          cases hq : P.info? t with
          | none => simp [hq] at hzv
          | some inf =>
            have hz' : inf.zero = some zv := by simpa [hq] using hzv
            simp [execOp, Instr.alloc, zeroValue, typeInfo, hq, hz', newVar, newRow, newObj, Sem.run, hzi]
        unfold Oper.wp
        rw [hrun]
        simp only [Oper.upon]
        let bl' : Nat → Nat := fun k => if k = i then w.heap.size else bl k
        let val' : Nat → Value := fun k => if k = i then .pointer (some ⟨w.heap.size, 0, none⟩) else val k
        refine ih (also D i) _ _ _ val' bl' hl' hD' hlow' hhigh' hcl' hcnt' (fun k h1 h2 => ?_) (fun k h1 h2 h3 => ?_) ?_ ?_
        · simp only [val']; rw [if_neg (by omega)]; exact hval k h1 h2
        · by_cases hk : k = i
          · simp only [val', bl', hk, if_true]; exact ⟨trivial, hs1⟩
          · simp only [val', bl', hk, if_false]; exact hbl k h1 h2 (by simpa [also, hk] using h3)
        · rw [puts_add ops val' D i _ a0 (by simp [List.mem_range'_1]; omega) (List.pairwise_lt_range') hDi hnodst, hdsti]
          rw [puts_congr ops val' val D D _ a0 (fun k hk => ⟨rfl, fun hDk => by
            have : k ≠ i := fun h => by subst h; rw [hDi] at hDk; cases hDk
            simp only [val']; rw [if_neg this]⟩), ← ha]
          simp only [val', if_true]
        · refine hM1.perm ?_
          have hp := filter_also (D := D) (i := i) (List.range' m1 (m2 - m1)) (by simp [List.mem_range'_1]; omega) (List.pairwise_lt_range') hDi
          have h1 : (newRows z bl' ((List.range' m1 (m2 - m1)).filter (also D i))).Perm ((w.heap.size, z i) :: newRows z bl ((List.range' m1 (m2 - m1)).filter D)) := by
            unfold newRows
            refine (List.reverse_perm _).trans (((hp.map (fun k => (bl' k, z k))).trans ?_))
            simp only [List.map_cons, bl', if_true]
            refine List.Perm.cons _ ?_
            refine (List.Perm.of_eq ?_).trans (List.reverse_perm _).symm
            refine List.map_congr_left fun k hk => ?_
            have hDk : D k = true := (List.mem_filter.1 hk).2
            have : k ≠ i := fun h => by subst h; rw [hDi] at hDk; cases hDk
            simp [this]
          exact (List.Perm.append_right L h1).symm

/-! ### The moves -/
theorem upTo_zero (n : Nat) : Array.replicate n false = upTo 0 n := by
  apply Array.ext_getElem?
  intro i
  simp only [upTo, List.getElem?_toArray, List.getElem?_map, Nat.not_lt_zero, decide_false, Array.getElem?_replicate]
  by_cases h : i < n
  · simp [h]
  · rw [if_neg h, List.getElem?_eq_none (by simp; omega)]; rfl

theorem upTo_getD {m n i : Nat} (hi : i < n) (d : Bool) : (upTo m n).getD i d = decide (i < m) := by
  simp [upTo, hi]
theorem upTo_size (m n : Nat) : (upTo m n).size = n := by simp [upTo]
theorem upTo_getD_false {m n i : Nat} (hm : m ≤ n) : (upTo m n).getD i false = decide (i < m) := by
  by_cases hi : i < n
  · exact upTo_getD hi false
  · have : ¬ i < m := by omega
    simp [upTo, this, hi]
theorem upTo_set {m n : Nat} (h : m < n) : (upTo m n).setIfInBounds m true = upTo (m + 1) n := by
  apply Array.ext_getElem?
  intro i
  rw [Array.getElem?_setIfInBounds]
  by_cases hi : i < n
  · simp only [upTo, List.getElem?_toArray, List.getElem?_map, List.getElem?_range hi, Option.map_some, List.size_toArray, List.length_map, List.length_range]
    by_cases h1 : m = i
    · subst h1; simp [h]
    · rw [if_neg h1]
      by_cases h2 : i < m
      · simp [h2]; omega
      · have : ¬ i < m + 1 := by omega
        simp [h2, this]
  · rw [if_neg (by omega)]
    simp only [upTo, List.getElem?_toArray, List.getElem?_map]
    rw [List.getElem?_eq_none (by simp; omega)]
    rfl

/-- The region begins. -/
theorem S_region {id : Nat} {a : Act} {w : World} (hm : P.follows .mixedOrders = true)
    (h : wpAny P .any ops.toArray Q (ops.length - 0) (upTo 0 ops.length) a { w with drawn := w.drawn + 1 }) : (Code.region id ops.toArray true).wp P Q a w :=
  wp_region_any hm (by simpa [upTo_zero] using h)

/-- The region ends. -/
theorem S_done {a : Act} {w : World} (h : Q .normal a w) : wpAny P .any ops.toArray Q (ops.length - ops.length) (upTo ops.length ops.length) a w := by
  refine wpAny_done ?_ h _
  refine List.eq_nil_iff_forall_not_mem.2 fun i hi => ?_
  obtain ⟨h1, o, h2, _⟩ := mem_ready.1 hi
  have h2' : ops[i]? = some o := by simpa using h2
  have : i < ops.length := (List.getElem?_eq_some_iff.1 h2').1
  rw [upTo_getD this] at h1
  simp [this] at h1

theorem upTo_closed (hB : ∀ j o, ops[j]? = some o → ∀ e ∈ o.after, Region.binds .any e = true → e.on < j) (m : Nat) : Closed ops (fun i => decide (i < m)) := by
  intro j o hj hD e he hb
  have := hB j o hj e he hb
  simp at hD ⊢
  omega

/-- A stage: the operations m .. m1 read, m1 .. m2 allocate. -/
theorem S_stage {a : Act} {w : World} (hB : stageB ops m m2 = true) (hm : m ≤ m1) (hm1 : m1 ≤ m2) (hz : allocsB P ops z m1 m2) (M : Mem w0 X L w)
    (h : lexQ P w0 X L ops.toArray (fun a1 => ∀ (bl : Nat → Nat) (w' : World), (∀ i, m1 ≤ i → i < m2 → w0.heap.size ≤ bl i) → Mem w0 X (newRows z bl (List.range' m1 (m2 - m1)) ++ L) w' →
      wpAny P .any ops.toArray Q (ops.length - m2) (upTo m2 ops.length) (puts ops (fun i => .pointer (some ⟨bl i, 0, none⟩)) (fun _ => true) (List.range' m1 (m2 - m1)) a1) w') ((ops.drop m).take (m1 - m)) a) :
    wpAny P .any ops.toArray Q (ops.length - m) (upTo m ops.length) a w := by
  obtain ⟨hlen, hmm2, hsel, hback, hap, hbar⟩ := stageB_spec hB
  have hl : ((ops.drop m).take (m1 - m)).length = m1 - m := by simp; omega
  obtain ⟨vals, hv, hF⟩ := lexQ_vals ((ops.drop m).take (m1 - m)) m a (fun j hj => by rw [hl] at hj; rw [List.getElem?_take_of_lt hj, List.getElem?_drop]) h
  rw [hl] at hF
  have hvals : ∀ i o, m ≤ i → i < m1 → ops[i]? = some o → OpGave P w0 X L ops.toArray o (puts ops vals (fun _ => true) (List.range' m (i - m)) a) (vals i) := by
    intro i o h1 h2 h3
    have := hv (i - m) o (by rw [List.getElem?_take_of_lt (by omega), List.getElem?_drop, show m + (i - m) = i from by omega]; exact h3)
    rw [show m + (i - m) = i from by omega] at this
    exact this
  have hnone : ∀ (l : List Nat) (b : Act), (∀ k ∈ l, m ≤ k) → puts ops vals (fun k => decide (k < m)) l b = b := by
    intro l
    induction l with
    | nil => intro b _; rfl
    | cons k l ihl => intro b hb; rw [puts, if_neg (by have := hb k (by simp); simp; omega)]; exact ihl b (fun k' hk' => hb k' (by simp [hk']))
  have hfil : ((List.range' m (m2 - m)).filter (fun i => !decide (i < m))).length = m2 - m := by
    rw [List.filter_eq_self.2 (fun i hi => by rw [List.mem_range'_1] at hi; simp; omega)]; simp
  have hfil2 : (List.range' m1 (m2 - m1)).filter (fun i => decide (i < m)) = [] :=
    List.filter_eq_nil_iff.2 fun i hi => by rw [List.mem_range'_1] at hi; simp; omega
  have := stage_main (Q := Q) hB hm hm1 hz hvals hF (m2 - m) (fun i => decide (i < m)) (upTo m ops.length) a w vals (fun _ => 0) (upTo_size _ _) (fun i => (upTo_getD_false (by omega)).symm)
    (fun i hi => by simpa using hi) (fun i hi => by simp; omega) (upTo_closed hback m) hfil (fun _ _ _ => rfl) (fun i h1 h2 h3 => by simp at h3; omega)
    (hnone _ _ (fun k hk => by rw [List.mem_range'_1] at hk; omega)).symm (by rw [hfil2]; simpa [newRows] using M)
  rw [show m2 - m + (ops.length - m2) = ops.length - m from by omega] at this
  exact this

/-- A stage that only reads. -/
theorem S_quiet {a : Act} {w : World} (m m2 : Nat) (hB : stageB ops m m2 = true) (hm : m ≤ m2) (M : Mem w0 X L w)
    (h : lexQ P w0 X L ops.toArray (fun a1 => ∀ w', Mem w0 X L w' → wpAny P .any ops.toArray Q (ops.length - m2) (upTo m2 ops.length) a1 w') ((ops.drop m).take (m2 - m)) a) :
    wpAny P .any ops.toArray Q (ops.length - m) (upTo m ops.length) a w := by
  refine S_stage (m1 := m2) (m2 := m2) (z := fun _ => default) hB hm (Nat.le_refl _) (fun i h1 h2 => by omega) M ?_
  have e : (fun a1 => ∀ (bl : Nat → Nat) (w' : World), (∀ i, m2 ≤ i → i < m2 → w0.heap.size ≤ bl i) → Mem w0 X (newRows (fun _ => default) bl (List.range' m2 (m2 - m2)) ++ L) w' →
      wpAny P .any ops.toArray Q (ops.length - m2) (upTo m2 ops.length) (puts ops (fun i => .pointer (some ⟨bl i, 0, none⟩)) (fun _ => true) (List.range' m2 (m2 - m2)) a1) w') =
      (fun a1 => ∀ w', Mem w0 X L w' → wpAny P .any ops.toArray Q (ops.length - m2) (upTo m2 ops.length) a1 w') := by
    funext a1
    simp only [Nat.sub_self, List.range'_zero, puts, newRows, List.map_nil, List.reverse_nil, List.nil_append]
    exact propext ⟨fun h w' hM => h (fun _ => 0) w' (fun i h1 h2 => by omega) hM, fun h _ w' _ hM => h w' hM⟩
  rw [e]
  exact h

/-- Operations that wait for one another in the text's order, and for which all that follows waits. -/
def segB (ops : List Oper) (m m2 : Nat) : Bool :=
  let ms := masks ops
  decide (m2 ≤ ops.length) && decide (m ≤ m2) && (ops.zipIdx.all fun p => p.1.after.all fun e => !Region.binds .any e || decide (e.on < p.2)) &&
  ((List.range' m (m2 - m)).all fun i => (List.range' (i + 1) (ops.length - (i + 1))).all fun j => (ms.getD j 0).testBit i)

theorem Oper.wp_then {o : Oper} {a : Act} {w : World} {K K' N : Act → World → Prop} (h : ∀ a w, K a w → K' a w) (hh : o.wp P a w K (Exit.then N Q)) : o.wp P a w K' Q := by
  unfold Oper.wp at *
  generalize (execOp a.eval o).run P w = r at *
  cases r with
  | ok n w' =>
    cases n <;> simp only [Oper.upon] at hh ⊢ <;>
      first
        | exact h _ _ hh
        | exact Calls.mono hh (fun e w'' he => by cases e <;> first | exact h _ _ he | exact he)
        | exact Rows.mono hh (fun _ _ he => h _ _ he)
  | halt x w' => cases x <;> simp only [Oper.upon] at hh ⊢ <;> exact hh

theorem S_step {a : Act} {w : World} {o : Oper} (ho : ops[m]? = some o) (hback : ∀ j o, ops[j]? = some o → ∀ e ∈ o.after, Region.binds .any e = true → e.on < j)
    (hall : ∀ j, m < j → j < ops.length → ((masks ops).getD j 0).testBit m = true)
    (h : wpOp P ops.toArray Q m (wpAny P .any ops.toArray Q (ops.length - (m + 1)) (upTo (m + 1) ops.length)) a w) : wpAny P .any ops.toArray Q (ops.length - m) (upTo m ops.length) a w := by
  have hm : m < ops.length := (List.getElem?_eq_some_iff.1 ho).1
  rw [show ops.length - m = (ops.length - (m + 1)) + 1 from by omega]
  have hr : ∀ i ∈ Region.ready .any ops.toArray (upTo m ops.length), i = m := by
    intro i hi
    obtain ⟨h1, o', h2, h3⟩ := mem_ready.1 hi
    have h2' : ops[i]? = some o' := by simpa using h2
    have hil : i < ops.length := (List.getElem?_eq_some_iff.1 h2').1
    rw [upTo_getD hil] at h1
    rcases Nat.lt_trichotomy i m with h | h | h
    · simp [h] at h1
    · exact h
    · have := masks_spec (upTo_closed hback m) h2' (fun e he hb => by rw [← upTo_getD_false (n := ops.length) (by omega)]; exact h3 e he hb) (hall i h hil)
      simp at this
  refine ⟨fun h0 => ?_, fun i hi => ?_⟩
  · exfalso
    have : m ∈ Region.ready .any ops.toArray (upTo m ops.length) :=
      mem_ready.2 ⟨by rw [upTo_getD hm]; simp, o, by simpa using ho, fun e he hb => by rw [upTo_getD_false (by omega)]; simpa using hback m o ho e he hb⟩
    rw [h0] at this
    cases this
  · rw [hr i hi, upTo_set hm]
    exact h

theorem S_seg' : ∀ (k m : Nat) (a : Act) (w : World), segB ops m (m + k) = true → wpList P ops.toArray (Exit.then (wpAny P .any ops.toArray Q (ops.length - (m + k)) (upTo (m + k) ops.length)) Q) ((ops.drop m).take k) a w →
    wpAny P .any ops.toArray Q (ops.length - m) (upTo m ops.length) a w
  | 0, m, a, w, _, h => by simpa [wpList, Exit.then] using h
  | k + 1, m, a, w, hB, h => by
    have hB0 := hB
    simp only [segB, Bool.and_eq_true, decide_eq_true_eq, List.all_eq_true, List.mem_range'_1] at hB
    obtain ⟨⟨⟨h1, h2⟩, h4⟩, h5⟩ := hB
    have hback : ∀ j o, ops[j]? = some o → ∀ e ∈ o.after, Region.binds .any e = true → e.on < j := by
      intro j o hj e he hb
      have := h4 (o, j) (List.mem_zipIdx_iff_getElem?.2 (by simpa using hj))
      have := Array.all_eq_true_iff_forall_mem.1 this e he
      simpa [hb] using this
    have ho : ops[m]? = some ops[m] := List.getElem?_eq_getElem (by omega)
    have hdrop : (ops.drop m).take (k + 1) = ops[m] :: (ops.drop (m + 1)).take k := by
      rw [List.drop_eq_getElem_cons (by omega), List.take_succ_cons]
    rw [hdrop] at h
    have hB' : segB ops (m + 1) (m + 1 + k) = true := by
      simp only [segB, Bool.and_eq_true, decide_eq_true_eq, List.all_eq_true, List.mem_range'_1]
      exact ⟨⟨⟨by omega, by omega⟩, h4⟩, fun i hi j hj => h5 i (by omega) j hj⟩
    have hnext : ∀ a w, wpList P ops.toArray (Exit.then (wpAny P .any ops.toArray Q (ops.length - (m + (k + 1))) (upTo (m + (k + 1)) ops.length)) Q) ((ops.drop (m + 1)).take k) a w →
        wpAny P .any ops.toArray Q (ops.length - (m + 1)) (upTo (m + 1) ops.length) a w := by
      intro a w h
      refine S_seg' k (m + 1) a w hB' ?_
      rw [show m + 1 + k = m + (k + 1) from by omega]
      exact h
    refine S_step ho hback (fun j hj hjl => h5 m (by omega) j (by omega)) ?_
    unfold wpOp
    simp only [List.getElem?_toArray, ho]
    rw [wpList] at h
    split
    · rename_i hw
      rw [if_pos hw] at h
      rcases h with h | ⟨h, a', w', hl⟩
      · exact .inl (Oper.wp_then hnext h)
      · exact .inr ⟨h, a', w', hl⟩
    · rename_i hw
      rw [if_neg hw] at h
      exact hnext _ _ h

theorem S_seg {a : Act} {w : World} (m m2 : Nat) (hB : segB ops m m2 = true) (hm : m ≤ m2)
    (h : wpList P ops.toArray (Exit.then (wpAny P .any ops.toArray Q (ops.length - m2) (upTo m2 ops.length)) Q) ((ops.drop m).take (m2 - m)) a w) : wpAny P .any ops.toArray Q (ops.length - m) (upTo m ops.length) a w := by
  refine S_seg' (m2 - m) m a w (by rw [show m + (m2 - m) = m2 from by omega]; exact hB) ?_
  rw [show m + (m2 - m) = m2 from by omega]
  exact h

/-! ### The steps of a stage's walk -/
theorem Q_nil {F : Act → Prop} {a : Act} {A : Array Oper} (h : F a) : lexQ P w0 X L A F [] a := h

theorem Q_run {F : Act → Prop} {a : Act} {rest : List Oper} {o : Oper} {v : Value} {A : Array Oper} (hw : Region.wanted o (yielded A a.tmps) = true) (hr : ∀ w, Mem w0 X L w → (execOp a.eval o).run P w = .ok (.value v) w)
    (k : lexQ P w0 X L A F rest (a.put o.dst v)) : lexQ P w0 X L A F (o :: rest) a := by
  rw [lexQ, if_pos hw]
  exact ⟨v, fun w hM => by rw [hr w hM]; exact ⟨rfl, Kept.refl _ _⟩, k⟩

theorem Q_no {F : Act → Prop} {a : Act} {rest : List Oper} {o : Oper} {A : Array Oper} (hw : Region.wanted o (yielded A a.tmps) = false) (k : lexQ P w0 X L A F rest (a.put o.dst undef)) : lexQ P w0 X L A F (o :: rest) a := by
  rw [lexQ, if_neg (by rw [hw]; simp)]
  exact k

theorem Q_call {F : Act → Prop} {a : Act} {rest : List Oper} {A : Array Oper} {dst : Option Tmp} {f : FuncId} {xs : List Operand} {ats : Array TypeId} {ty : TypeId} {pos : String} {after : Array Edge} {g : Option (Nat × Bool)} {fn : Func} {v : Value} {args : List Value}
    (hw : Region.wanted { dst := dst, op := .call { callee := .value (.func f), args := xs.toArray, argTypes := ats }, type := ty, pos := pos, after := after, guard := g } (yielded A a.tmps) = true)
    (hfn : P.funcs[f]? = some fn) (hn : (fn.name == "runtime.NumGoroutine") = false) (hb : fn.body.isNone = false) (hargs : xs.map a.eval = args)
    (hc : ∀ w, Mem w0 X L w → Calls P f args.toArray w fun e w' => e = .returned v ∧ Kept [] w w') (k : lexQ P w0 X L A F rest (a.put dst v)) :
    lexQ P w0 X L A F ({ dst := dst, op := .call { callee := .value (.func f), args := xs.toArray, argTypes := ats }, type := ty, pos := pos, after := after, guard := g } :: rest) a := by
  rw [lexQ, if_pos hw]
  refine ⟨v, fun w hM => ?_, k⟩
  have hr : (execOp a.eval { dst := dst, op := .call { callee := .value (.func f), args := xs.toArray, argTypes := ats }, type := ty, pos := pos, after := after, guard := g }).run P w = .ok (.enter f args.toArray) w := by
    rw [execOp_call_go]
    have hn' : ¬ fn.name = "runtime.NumGoroutine" := by simpa using hn
    have hb' : ¬ fn.body = none := by intro h; simp [h] at hb
    simp [callFunc, Go.program, Sem.run, hfn, hn', hb', hargs]
  rw [hr]
  exact ⟨Kept.refl _ _, hc w hM⟩
end

end Go.Own

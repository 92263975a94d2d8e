/-
  Slices with room; the walks of law.push32, law.join, law.ret.
-/
import Derived.Test.YgcsalGreatMv36
import Derived.Laws.OwnMore
set_option linter.unusedSimpArgs false
set_option linter.unusedVariables false
namespace Go.Own
section
variable {P : Program} {ops : Array Oper} {Q : Exit → Act → World → Prop} {rest : List Oper} {a : Act} {w w0 : World} {X : List Nat} {L : List (Nat × Obj)}
theorem run_makeCap {l c : Operand} {t e ty' : TypeId} {j : Int} {ki kj : IntKind} {n by1 : Nat} {z : Value} {dst : Option Tmp} {pos : String} {after : Array Edge} {g : Option (Nat × Bool)}
    (hl : a.eval l = .int ki 0) (hc : a.eval c = .int kj j) (hj : j = (n : Nat)) (hn : n ≤ 1000) (hu : P.underlying t = some (.slice e))
    (he : (P.info? e).map (fun i => (i.zero, i.size, i.bytes)) = some (some z, 1, by1)) (hzs : z.cells.size = 1) (hby : by1 ≤ 1000) :
    (execOp a.eval { dst := dst, op := .makeSlice t l c, type := ty', pos := pos, after := after, guard := g }).run P w =
      .ok (.value (.slice (some ⟨w.heap.size, 0, none⟩) 0 n)) { w with heap := w.heap.push (.cells ((Array.range (n * 1)).map (fun x => z.cells[x % 1]!)) e (0, 0)) } := by
  subst hj
  cases hq : P.info? e with
  | none => simp [hq] at he
  | some inf =>
    simp only [hq, Option.map_some, Option.some.injEq, Prod.mk.injEq] at he
    obtain ⟨h1, h2, h3⟩ := he
    subst h3
    have hw : IntKind.i64.wrap (n : Int) = (n : Int) := by simp [IntKind.wrap, IntKind.bits, IntKind.signed]; omega
    have hw0 : IntKind.i64.wrap 0 = 0 := by decide
    have hnt : ¬ ((n : Int) < 0) := by omega
    have hm : n * inf.bytes ≤ 1000 * 1000 := Nat.mul_le_mul hn hby
    have hb : ¬ (281474976710656 < (inf.bytes : Int) * (n : Int)) := by
      have : ((n * inf.bytes : Nat) : Int) = (inf.bytes : Int) * (n : Int) := by rw [Int.natCast_mul, Int.mul_comm]
      omega
    have haskroom : ∀ k, (askRoom k).run P w = .ok () w := by intro k; unfold askRoom; split <;> rfl
    by_cases hz : n = 0
    · subst hz
      simp [execOp, hl, hc, Instr.makeSlice, asInt, asIntOf, Sem.run_bind, run_underlying hu, typeInfo, hq, h1, h2, hw0, sizeOf, haskroom, newRow, newObj, Sem.run, zeroValue]
      have e1 : Array.map (fun _ : Nat => (default : Value)) (Array.range 0) = #[] := Array.eq_empty_of_size_eq_zero (by simp)
      have e2 : Array.map (fun x : Nat => z.cells[x % 1]!) (Array.range 0) = #[] := Array.eq_empty_of_size_eq_zero (by simp)
      first | rw [e1, e2] | rw [e2] | rfl | simp
    · simp [execOp, hl, hc, Instr.makeSlice, asInt, asIntOf, Sem.run_bind, run_underlying hu, typeInfo, hq, h1, h2, hzs, hw, hw0, hnt, hb, sizeOf, haskroom, newRow, newObj, Sem.run, zeroValue, hz]
theorem W_makeCap {l c : Operand} {t e ty' : TypeId} {j : Int} {ki kj : IntKind} {n by1 : Nat} {z : Value} {dst : Tmp} {pos : String} {after : Array Edge} (M : Mem w0 X L w)
    (hl : a.eval l = .int ki 0) (hc : a.eval c = .int kj j) (hj : j = (n : Nat)) (hn : n ≤ 1000) (hu : P.underlying t = some (.slice e))
    (he : (P.info? e).map (fun i => (i.zero, i.size, i.bytes)) = some (some z, 1, by1)) (hzs : z.cells.size = 1) (hby : by1 ≤ 1000)
    (k : ∀ v w', Mem w0 X L w' → w'.ownsRow w.heap.size e 1 v 0 [] → w.heap.size ≤ w'.heap.size → Kept [] w w' → wpList P ops Q rest (a.put (some dst) v) w') :
    wpList P ops Q ({ dst := some dst, op := .makeSlice t l c, type := ty', pos := pos, after := after, guard := none } :: rest) a w := by
  have K := ((Mem.start w []).alloc (.cells ((Array.range (n * 1)).map (fun x => z.cells[x % 1]!)) e (0, 0))).2
  refine L_run rfl (run_makeCap hl hc hj hn hu he hzs hby) (k _ _ (M.call K.kept) ⟨by simp, .inr ⟨w.heap.size, n, (Array.range (n * 1)).map (fun x => z.cells[x % 1]!), rfl, Nat.le_refl _, by simp, by omega, by simp only [maxLen]; omega, by simp, by simp⟩⟩ (by simp) K.kept)
theorem W_appendNil {d : Tmp} {s1 s2 : Operand} {t e ty : TypeId} {pos : String} {after : Array Edge} {v : Value} {base s n : Nat} {xs : List Value} (hs1 : a.eval s1 = v) (hs2 : a.eval s2 = .slice none 0 0) (hu : P.underlying t = some (.slice e)) (he : (P.info? e).isSome = true) (hown : w.ownsRow base e s v n xs)
    (k : wpList P ops Q rest (a.put (some d) v) w) :
    wpList P ops Q ({ dst := some d, op := .call { callee := .builtin .append, args := #[s1, s2], argTypes := #[t, t] }, type := ty, pos := pos, after := after, guard := none } :: rest) a w := by
  refine L_run rfl ?_ k
  obtain ⟨i, hi⟩ := Option.isSome_iff_exists.1 he
  have h := run_append_owned_none (P := P) w base t ty e i s hu hi v n xs hown
  simp only [execOp, resolve, invoke, builtin, Sem.run_bind, Sem.run_pure, Result.andThen_ok, List.map_toArray, List.map_cons, List.map_nil, hs1, hs2, h]
/-- []T{x, y, ..} of single cells that are numbers. -/
theorem W_buildN {d : Tmp} {t ty : TypeId} {pos : String} {after : Array Edge} {n : Nat} {xs : Array (Nat × Operand)} {e : TypeId} {vs : Array Value} (M : Mem w0 X L w)
    (hr : (execOp a.eval { dst := some d, op := .buildSlice t n xs, type := ty, pos := pos, after := after, guard := none }).run P w = .ok (.value (.slice (some ⟨w.heap.size, 0, none⟩) n n)) { w with heap := w.heap.push (.cells vs e (0, 0)) })
    (k : ∀ b w', w0.heap.size ≤ b → w.heap.size ≤ b → Kept [] w w' → Mem w0 X ((b, .cells vs e (0, 0)) :: L) w' → wpList P ops Q rest (a.put (some d) (.slice (some ⟨b, 0, none⟩) n n)) w') :
    wpList P ops Q ({ dst := some d, op := .buildSlice t n xs, type := ty, pos := pos, after := after, guard := none } :: rest) a w := by
  have ⟨h1, h2⟩ := M.alloc (.cells vs e (0, 0))
  exact L_run rfl hr (k _ _ h1 (Nat.le_refl _) ((Mem.start w []).alloc (.cells vs e (0, 0))).2.kept h2)
end
end Go.Own
namespace Go.Own
theorem own_lit {w : World} {b n base : Nat} {e : TypeId} {vs : Array Value} (h : w.heap[b]? = some (.cells vs e (0, 0))) (hs : vs.size = n) (hn : n ≤ 1000000) (hb : base ≤ b) : w.ownsRow base e 1 (.slice (some ⟨b, 0, none⟩) n n) n vs.toList :=
  ⟨by simp [hs], .inr ⟨b, n, vs, rfl, hb, h, Nat.le_refl _, by simp only [maxLen]; omega, by simp [hs], List.take_of_length_le (by simp [hs])⟩⟩
end Go.Own
namespace Go.Proofs.YgcsalGreat
open Go.RowKit Go.Own
theorem some5 : (Salg.prog.info? 5).isSome = true := by kernel_rfl

set_option maxHeartbeats 4000000 in
set_option maxRecDepth 100000 in
theorem push32_any (bs : List Nat) (w : World) (hb : bs.length = 32) : Calls Salg.prog 33 #[A8 bs] w fun e w' => ∃ v, e = .returned v ∧ RowV w' 5 v ((127 :: bs).map n8) ∧ Kept [] w w' := by
  have M := Mem.start w []
  have HB := hid hb
  clear hb
  go_enter Salg.func33, Salg.ntmps33
  go_wp2_with (first
    | ((with_reducible apply L_box (d := 1) M); rfl; clear M; intro t1 w1 ht1 M; simp only [Act.put, List.setIfInBounds_toArray, List.set_cons_zero, List.set_cons_succ])
    | ((with_reducible apply W_buildIt (u := .int .u8 127) (vs := #[.int .u8 127]) (s := 1) M); rfl; rfl; exact Salg.underlying40; exact size5; exact zero5s; rfl; decide; decide; clear M; intro bn w2 hbn hbn2 KB M; have HO := hid (own_lit (base := w.heap.size) M.r0 rfl (by decide) hbn); have hBw := M.kept.size; clear KB hbn2; simp only [Act.put, List.setIfInBounds_toArray, List.set_cons_zero, List.set_cons_succ])
    | ((with_reducible apply W_sliceArr (l := 0) (h := 32) (m := 32)); rfl; exact Salg.underlying22; exact size5; (first | exact Or.inl ⟨rfl, rfl⟩ | exact Or.inr ⟨_, _, _, rfl, rfl, by omega⟩); (first | exact Or.inl ⟨rfl, rfl⟩ | exact Or.inr ⟨_, _, _, rfl, rfl, by omega⟩); (first | exact Or.inl ⟨rfl, rfl⟩ | exact Or.inr ⟨_, _, _, rfl, rfl, by omega⟩); (first | exact Or.inl rfl | exact Or.inr rfl); omega; omega; omega; omega; (try simp only [Nat.zero_add, Nat.sub_zero]); simp only [Act.put, List.setIfInBounds_toArray, List.set_cons_zero, List.set_cons_succ])
    | ((with_reducible apply W_appendIt (base := w.heap.size) (n := 1) (m := 32) (s := 1) (bn := t1) (so := 0) (xs := [n8 127]) (news := bs.map n8) (cs := (bs.map n8).toArray) M.tail); exact info5; exact Salg.underlying40; rfl; decide; decide; rfl; rfl; exact HO.out; decide; exact M.r1; (simp [HB.out]); exact cells_news _; exact n8_one _; exact Nat.le_refl _; exact hBw; exact apart1 (own_type HO.out M.r1 (by decide)); clear M; intro VV w3 M xO hb3 KA; replace HO := hid xO; clear xO KA; simp only [Act.put, List.setIfInBounds_toArray, List.set_cons_zero, List.set_cons_succ]))
  go_ret
  exact ⟨_, rfl, RowV.own HO.out, M.kept⟩

set_option maxHeartbeats 4000000 in
set_option maxRecDepth 100000 in
theorem join_three (x0 : Value) (l0 : List Value) (x1 : Value) (l1 : List Value) (x2 : Value) (l2 : List Value) (w : World) (h0 : RowV w 5 x0 l0) (p0 : 0 < l0.length) (q0 : l0.length ≤ 200) (o0 : ∀ u ∈ l0, u.oneCell' = true) (h1 : RowV w 5 x1 l1) (p1 : 0 < l1.length) (q1 : l1.length ≤ 200) (o1 : ∀ u ∈ l1, u.oneCell' = true) (h2 : RowV w 5 x2 l2) (p2 : 0 < l2.length) (q2 : l2.length ≤ 200) (o2 : ∀ u ∈ l2, u.oneCell' = true) : Calls Salg.prog 32 #[x0, x1, x2, .slice none 0 0] w fun e w' => ∃ v, e = .returned v ∧ w'.ownsRow w.heap.size 5 1 v (l0.length + l1.length + l2.length) (l0 ++ l1 ++ l2) ∧ Kept [] w w' := by
  have M := Mem.start w []
  obtain ⟨g0, cap0, cur0, rfl, hg0, hc0, xc0⟩ := h0.pos p0
  have HX0 : Hid (∀ (j : Nat) (u : Value), l0[j]? = some u → cur0[0 + j]? = some u) := by
    intro j u hj
    rw [Nat.zero_add, xc0 j (List.getElem?_eq_some_iff.1 hj).1]
    exact hj
  have HI0 := hid o0
  clear h0 xc0 o0
  obtain ⟨g1, cap1, cur1, rfl, hg1, hc1, xc1⟩ := h1.pos p1
  have HX1 : Hid (∀ (j : Nat) (u : Value), l1[j]? = some u → cur1[0 + j]? = some u) := by
    intro j u hj
    rw [Nat.zero_add, xc1 j (List.getElem?_eq_some_iff.1 hj).1]
    exact hj
  have HI1 := hid o1
  clear h1 xc1 o1
  obtain ⟨g2, cap2, cur2, rfl, hg2, hc2, xc2⟩ := h2.pos p2
  have HX2 : Hid (∀ (j : Nat) (u : Value), l2[j]? = some u → cur2[0 + j]? = some u) := by
    intro j u hj
    rw [Nat.zero_add, xc2 j (List.getElem?_eq_some_iff.1 hj).1]
    exact hj
  have HI2 := hid o2
  clear h2 xc2 o2
  go_enter Salg.func32, Salg.ntmps32
  go_wp2_with (first
    | ((with_reducible apply W_makeCap (n := l0.length + l1.length + l2.length) M); rfl; rfl; (first | rfl | omega); omega; exact Salg.underlying40; exact info5; rfl; decide; (have hwB := M.kept.size); clear M; intro v9 w9 M xO hB0 KB; have HO := hid xO; (have hBw := hB0); clear xO hB0; simp only [Act.put, List.setIfInBounds_toArray, List.set_cons_zero, List.set_cons_succ])
    | ((with_reducible apply W_appendIt  (n := 0) (m := l0.length) (s := 1) (bn := g0) (so := 0) (xs := []) (news := l0) (cs := cur0) M); exact info5; exact Salg.underlying40; rfl; decide; decide; rfl; rfl; exact HO.out; omega; exact M.kept.row hg0 (by simp); (simp); exact HX0.out; exact HI0.out; exact hwB; exact hBw; (intro p hp; cases hp); clear M; intro v0 w0 M xO hb3 KA; replace HO := hid xO; replace hBw := hb3; clear xO hb3 KA; simp only [Act.put, List.setIfInBounds_toArray, List.set_cons_zero, List.set_cons_succ])
    | ((with_reducible apply W_appendIt  (n := 0 + l0.length) (m := l1.length) (s := 1) (bn := g1) (so := 0) (xs := [] ++ l0) (news := l1) (cs := cur1) M); exact info5; exact Salg.underlying40; rfl; decide; decide; rfl; rfl; exact HO.out; omega; exact M.kept.row hg1 (by simp); (simp); exact HX1.out; exact HI1.out; exact hwB; exact hBw; (intro p hp; cases hp); clear M; intro v1 w1 M xO hb3 KA; replace HO := hid xO; replace hBw := hb3; clear xO hb3 KA; simp only [Act.put, List.setIfInBounds_toArray, List.set_cons_zero, List.set_cons_succ])
    | ((with_reducible apply W_appendIt  (n := 0 + l0.length + l1.length) (m := l2.length) (s := 1) (bn := g2) (so := 0) (xs := [] ++ l0 ++ l1) (news := l2) (cs := cur2) M); exact info5; exact Salg.underlying40; rfl; decide; decide; rfl; rfl; exact HO.out; omega; exact M.kept.row hg2 (by simp); (simp); exact HX2.out; exact HI2.out; exact hwB; exact hBw; (intro p hp; cases hp); clear M; intro v2 w2 M xO hb3 KA; replace HO := hid xO; replace hBw := hb3; clear xO hb3 KA; simp only [Act.put, List.setIfInBounds_toArray, List.set_cons_zero, List.set_cons_succ])
    | ((with_reducible apply W_appendNil ); rfl; rfl; exact Salg.underlying40; exact some5; exact HO.out; simp only [Act.put, List.setIfInBounds_toArray, List.set_cons_zero, List.set_cons_succ]))
  go_ret
  refine ⟨v2, rfl, ?_, M.kept⟩
  have h := own_mono HO.out hwB
  simpa using h

set_option maxHeartbeats 4000000 in
set_option maxRecDepth 100000 in
theorem join_four (x0 : Value) (l0 : List Value) (x1 : Value) (l1 : List Value) (x2 : Value) (l2 : List Value) (x3 : Value) (l3 : List Value) (w : World) (h0 : RowV w 5 x0 l0) (p0 : 0 < l0.length) (q0 : l0.length ≤ 200) (o0 : ∀ u ∈ l0, u.oneCell' = true) (h1 : RowV w 5 x1 l1) (p1 : 0 < l1.length) (q1 : l1.length ≤ 200) (o1 : ∀ u ∈ l1, u.oneCell' = true) (h2 : RowV w 5 x2 l2) (p2 : 0 < l2.length) (q2 : l2.length ≤ 200) (o2 : ∀ u ∈ l2, u.oneCell' = true) (h3 : RowV w 5 x3 l3) (p3 : 0 < l3.length) (q3 : l3.length ≤ 200) (o3 : ∀ u ∈ l3, u.oneCell' = true) : Calls Salg.prog 32 #[x0, x1, x2, x3] w fun e w' => ∃ v, e = .returned v ∧ RowV w' 5 v (l0 ++ l1 ++ l2 ++ l3) ∧ Kept [] w w' := by
  have M := Mem.start w []
  obtain ⟨g0, cap0, cur0, rfl, hg0, hc0, xc0⟩ := h0.pos p0
  have HX0 : Hid (∀ (j : Nat) (u : Value), l0[j]? = some u → cur0[0 + j]? = some u) := by
    intro j u hj
    rw [Nat.zero_add, xc0 j (List.getElem?_eq_some_iff.1 hj).1]
    exact hj
  have HI0 := hid o0
  clear h0 xc0 o0
  obtain ⟨g1, cap1, cur1, rfl, hg1, hc1, xc1⟩ := h1.pos p1
  have HX1 : Hid (∀ (j : Nat) (u : Value), l1[j]? = some u → cur1[0 + j]? = some u) := by
    intro j u hj
    rw [Nat.zero_add, xc1 j (List.getElem?_eq_some_iff.1 hj).1]
    exact hj
  have HI1 := hid o1
  clear h1 xc1 o1
  obtain ⟨g2, cap2, cur2, rfl, hg2, hc2, xc2⟩ := h2.pos p2
  have HX2 : Hid (∀ (j : Nat) (u : Value), l2[j]? = some u → cur2[0 + j]? = some u) := by
    intro j u hj
    rw [Nat.zero_add, xc2 j (List.getElem?_eq_some_iff.1 hj).1]
    exact hj
  have HI2 := hid o2
  clear h2 xc2 o2
  obtain ⟨g3, cap3, cur3, rfl, hg3, hc3, xc3⟩ := h3.pos p3
  have HX3 : Hid (∀ (j : Nat) (u : Value), l3[j]? = some u → cur3[0 + j]? = some u) := by
    intro j u hj
    rw [Nat.zero_add, xc3 j (List.getElem?_eq_some_iff.1 hj).1]
    exact hj
  have HI3 := hid o3
  clear h3 xc3 o3
  go_enter Salg.func32, Salg.ntmps32
  go_wp2_with (first
    | ((with_reducible apply W_makeCap (n := l0.length + l1.length + l2.length + l3.length) M); rfl; rfl; (first | rfl | omega); omega; exact Salg.underlying40; exact info5; rfl; decide; (have hwB := M.kept.size); clear M; intro v9 w9 M xO hB0 KB; have HO := hid xO; (have hBw := hB0); clear xO hB0; simp only [Act.put, List.setIfInBounds_toArray, List.set_cons_zero, List.set_cons_succ])
    | ((with_reducible apply W_appendIt  (n := 0) (m := l0.length) (s := 1) (bn := g0) (so := 0) (xs := []) (news := l0) (cs := cur0) M); exact info5; exact Salg.underlying40; rfl; decide; decide; rfl; rfl; exact HO.out; omega; exact M.kept.row hg0 (by simp); (simp); exact HX0.out; exact HI0.out; exact hwB; exact hBw; (intro p hp; cases hp); clear M; intro v0 w0 M xO hb3 KA; replace HO := hid xO; replace hBw := hb3; clear xO hb3 KA; simp only [Act.put, List.setIfInBounds_toArray, List.set_cons_zero, List.set_cons_succ])
    | ((with_reducible apply W_appendIt  (n := 0 + l0.length) (m := l1.length) (s := 1) (bn := g1) (so := 0) (xs := [] ++ l0) (news := l1) (cs := cur1) M); exact info5; exact Salg.underlying40; rfl; decide; decide; rfl; rfl; exact HO.out; omega; exact M.kept.row hg1 (by simp); (simp); exact HX1.out; exact HI1.out; exact hwB; exact hBw; (intro p hp; cases hp); clear M; intro v1 w1 M xO hb3 KA; replace HO := hid xO; replace hBw := hb3; clear xO hb3 KA; simp only [Act.put, List.setIfInBounds_toArray, List.set_cons_zero, List.set_cons_succ])
    | ((with_reducible apply W_appendIt  (n := 0 + l0.length + l1.length) (m := l2.length) (s := 1) (bn := g2) (so := 0) (xs := [] ++ l0 ++ l1) (news := l2) (cs := cur2) M); exact info5; exact Salg.underlying40; rfl; decide; decide; rfl; rfl; exact HO.out; omega; exact M.kept.row hg2 (by simp); (simp); exact HX2.out; exact HI2.out; exact hwB; exact hBw; (intro p hp; cases hp); clear M; intro v2 w2 M xO hb3 KA; replace HO := hid xO; replace hBw := hb3; clear xO hb3 KA; simp only [Act.put, List.setIfInBounds_toArray, List.set_cons_zero, List.set_cons_succ])
    | ((with_reducible apply W_appendIt  (n := 0 + l0.length + l1.length + l2.length) (m := l3.length) (s := 1) (bn := g3) (so := 0) (xs := [] ++ l0 ++ l1 ++ l2) (news := l3) (cs := cur3) M); exact info5; exact Salg.underlying40; rfl; decide; decide; rfl; rfl; exact HO.out; omega; exact M.kept.row hg3 (by simp); (simp); exact HX3.out; exact HI3.out; exact hwB; exact hBw; (intro p hp; cases hp); clear M; intro v3 w3 M xO hb3 KA; replace HO := hid xO; replace hBw := hb3; clear xO hb3 KA; simp only [Act.put, List.setIfInBounds_toArray, List.set_cons_zero, List.set_cons_succ]))
  go_ret
  refine ⟨v3, rfl, ?_, M.kept⟩
  have h := RowV.own HO.out
  simpa using h

set_option maxHeartbeats 4000000 in
set_option maxRecDepth 100000 in
theorem ret_any (n : Nat) (w : World) : Calls Salg.prog 34 #[n8 n] w fun e w' => ∃ v, e = .returned v ∧ RowV w' 5 v ([96, n, 95, 243].map n8) ∧ Kept [] w w' := by
  have M := Mem.start w []
  go_enter Salg.func34, Salg.ntmps34
  go_wp2_with ((with_reducible apply W_buildN (vs := #[n8 96, n8 n, n8 95, n8 243]) (e := 5) M); kernel_rfl; clear M; intro bn w2 hbn hbn2 KB M; clear KB hbn2; simp only [Act.put, List.setIfInBounds_toArray, List.set_cons_zero, List.set_cons_succ])
  go_ret
  exact ⟨_, rfl, RowV.own (own_lit (base := 0) M.r0 rfl (by decide) (Nat.zero_le _)), M.kept⟩
end Go.Proofs.YgcsalGreat

/-
  The walk of law.StoreLoad.
-/
import Derived.Test.YgcsalGreatSl39
import Derived.Test.YgcsalGreatSl40
import Derived.Test.YgcsalGreatSl2
import Derived.Test.YgcsalGreatMv42
set_option linter.unusedSimpArgs false
set_option linter.unusedVariables false
namespace Go.Own
section
variable {P : Program} {ops : Array Oper} {Q : Exit → Act → World → Prop} {rest : List Oper} {a : Act} {w w0 : World} {X : List Nat} {L : List (Nat × Obj)}
/-- append: the row's own block, or a new one. -/
theorem W_appendX {d : Tmp} {s1 s2 : Operand} {t e ty : TypeId} {pos : String} {after : Array Edge} {base n m s by1 bn so cap : Nat} {z v : Value} {xs news : List Value} {cs : Array Value} {tn : TypeId} {fr : Nat × Nat} (M : Mem w0 X L w)
    (hinfo : (P.info? e).map (fun i => (i.zero, i.size, i.bytes)) = some (some z, s, by1)) (hu : P.underlying t = some (.slice e)) (hzs : z.cells.size = s) (h0 : 0 < s) (hby : by1 ≤ 100000)
    (hs1 : a.eval s1 = v) (hs2 : a.eval s2 = .slice (some ⟨bn, so, none⟩) m cap) (hown : w.ownsRow base e s v n xs) (hn : n + m ≤ 1000000) (hr : w.heap[bn]? = some (.cells cs tn fr)) (hl : news.length = m * s) (hc : ∀ (j : Nat) (u : Value), news[j]? = some u → cs[so + j]? = some u) (h1 : ∀ u ∈ news, u.oneCell' = true)
    (hb : w0.heap.size ≤ base) (hbw : base ≤ w.heap.size) (hL : ∀ p ∈ L, v.ownBlock ≠ some p.1)
    (k : ∀ v' w', Mem w0 X L w' → w'.ownsRow base e s v' (n + m) (xs ++ news) → base ≤ w'.heap.size → Kept v.ownBlock.toList w w' → (∀ b, v'.ownBlock = some b → v.ownBlock = some b ∨ w.heap.size ≤ b) → wpList P ops Q rest (a.put (some d) v') w') :
    wpList P ops Q ({ dst := some d, op := .call { callee := .builtin .append, args := #[s1, s2], argTypes := #[t, t] }, type := ty, pos := pos, after := after, guard := none } :: rest) a w := by
  have key : ∃ v' w', (execOp a.eval { dst := some d, op := .call { callee := .builtin .append, args := #[s1, s2], argTypes := #[t, t] }, type := ty, pos := pos, after := after, guard := none }).run P w = .ok (.value v') w' ∧ w'.ownsRow base e s v' (n + m) (xs ++ news) ∧ Kept v.ownBlock.toList w w' ∧ (∀ b, v'.ownBlock = some b → v.ownBlock = some b ∨ w.heap.size ≤ b) := by
    rcases hown.2 with ⟨hv, hn0⟩ | ⟨g, cp, cur, hv, hbg, hg, hnc, hcm, hcs, htake⟩
    · subst hv
      subst hn0
      have hx : xs = [] := List.eq_nil_of_length_eq_zero (by simpa using hown.1)
      subst hx
      obtain ⟨v', w', h2, h3, h4⟩ := run_appendIt (P := P) (a := a) (w := w) (base := w.heap.size) (d := some d) (ty := ty) (pos := pos) (after := after) (gg := none) hinfo hu hzs h0 hby hs1 hs2 (own_nil _ _ _ _) hn hr hl hc h1 (Nat.le_refl _)
      exact ⟨v', w', h2, own_mono h3 hbw, h4, fun b hb => .inr (own_block h3 hb).1⟩
    · subst hv
      by_cases hroom : n + m ≤ cp
      · obtain ⟨v', w', h2, h3, h4⟩ := run_appendIt (P := P) (a := a) (w := w) (base := base) (d := some d) (ty := ty) (pos := pos) (after := after) (gg := none) hinfo hu hzs h0 hby hs1 hs2 hown hn hr hl hc h1 hbw
        refine ⟨v', w', h2, h3, h4, fun b hb => .inl ?_⟩
        cases hie : P.info? e with
        | none => simp [hie] at hinfo
        | some ie =>
          simp only [hie, Option.map_some, Option.some.injEq, Prod.mk.injEq] at hinfo
          obtain ⟨i1, i2, i3⟩ := hinfo
          subst i2
          have hfit : n * ie.size + news.length ≤ cur.size := by rw [hl, hcs, ← Nat.add_mul]; exact Nat.mul_le_mul_right _ hroom
          have hrm := run_append_room (P := P) w t ty e ie hu hie g n cp cur hg ⟨bn, so, none⟩ m cap news hl (by
            intro j u hj
            rw [Addr.add_mid, cell_of_row hr]
            exact hc j u hj) h1 hroom hfit
          have h5 : (execOp a.eval { dst := some d, op := .call { callee := .builtin .append, args := #[s1, s2], argTypes := #[t, t] }, type := ty, pos := pos, after := after, guard := none }).run P w = .ok (.value (.slice (some ⟨g, 0, none⟩) (n + m) cp)) (w.setRow g (cur.toList.take (n * ie.size) ++ news ++ cur.toList.drop (n * ie.size + news.length)).toArray) := by
            simp only [execOp, resolve, invoke, builtin, Sem.run_bind, Sem.run_pure, Result.andThen_ok, List.map_toArray, List.map_cons, List.map_nil, hs1, hs2, hrm]
          rw [h5] at h2
          injection h2 with h6 h7
          injection h6 with h6
          subst h6
          exact hb
      · obtain ⟨v', w', h2, h3, h4⟩ := run_appendG (P := P) (a := a) (w := w) (d := some d) (ty := ty) (pos := pos) (after := after) (gg := none) hinfo hu hzs h0 hby hs1 hs2 hg hown.1 (by
          intro j u hj
          rw [← htake, List.getElem?_take] at hj
          split at hj
          · simpa using hj
          · cases hj) hn (by omega) hr hl hc
        exact ⟨v', w', h2, own_mono h3 hbw, h4.mono (by simp), fun b hb => .inr (own_block h3 hb).1⟩
  obtain ⟨v', w', h2, h3, h4, h5⟩ := key
  exact L_run rfl h2 (k v' w' (M.own h4 (fun q hq => Nat.le_trans hb (own_block hown hq).1) hL) h3 (Nat.le_trans hbw h4.size) h4 h5)
end
theorem own_three {w : World} {base : Nat} {v : Value} {l0 l1 l2 : List Value} (h : w.ownsRow base 123 55 v 3 (l0 ++ (l1 ++ (l2 ++ [])))) (h0 : l0.length = 55) (h1 : l1.length = 55) : ∃ g cap cur, v = .slice (some ⟨g, 0, none⟩) 3 cap ∧ w.heap[g]? = some (.cells cur 123 (0, 0)) ∧ 165 ≤ cur.size ∧ cur.extract 0 (0 + 55) = l0.toArray ∧ cur.extract 55 (55 + 55) = l1.toArray := by
  rcases h.2 with ⟨_, h2⟩ | ⟨g, cap, cur, e1, e2, e3, e4, e5, e6, e7⟩
  · omega
  · have hsz : 165 ≤ cur.size := by omega
    have key : ∀ k, k < 110 → cur[k]? = (l0 ++ (l1 ++ (l2 ++ [])))[k]? := by
      intro k hk
      rw [← e7, List.getElem?_take_of_lt (by omega)]
      simp
    refine ⟨g, cap, cur, e1, e3, hsz, ?_, ?_⟩
    · apply Array.ext_getElem?
      intro k
      rcases Nat.lt_or_ge k 55 with hk | hk
      · rw [Array.getElem?_extract, if_pos (by omega), key _ (by omega), List.getElem?_append_left (by omega), List.getElem?_toArray, Nat.zero_add]
      · rw [Array.getElem?_extract, if_neg (by omega), List.getElem?_toArray, List.getElem?_eq_none (by omega)]
    · apply Array.ext_getElem?
      intro k
      rcases Nat.lt_or_ge k 55 with hk | hk
      · rw [Array.getElem?_extract, if_pos (by omega), key _ (by omega), List.getElem?_append_right (by omega), List.getElem?_append_left (by omega), List.getElem?_toArray]
        congr 1
        omega
      · rw [Array.getElem?_extract, if_neg (by omega), List.getElem?_toArray, List.getElem?_eq_none (by omega)]
/-- Code that stores v at k. -/
def sPr (k v : List Nat) : List Nat := 127 :: v ++ 127 :: k ++ [85]
def tPr (k : List Nat) : List Nat := 127 :: k ++ ([84, 95, 82] ++ [96, 32, 95, 243])
def first0 (k x : List Nat) : List Nat := sPr k x ++ tPr k
def first1 (k x : List Nat) : List Nat := sPr k x ++ [95, 95, 95, 95, 96, 2, 97, 195, 80, 244] ++ tPr k
theorem small_app {a b : List Nat} (h : Small a) (h' : Small b) : Small (a ++ b) := fun x hx => (List.mem_append.1 hx).elim (h x) (h' x)
theorem small_cons {a : Nat} {b : List Nat} (h : a < 256) (h' : Small b) : Small (a :: b) := fun x hx => (List.mem_cons.1 hx).elim (fun e => e ▸ h) (h' x)
theorem small_lit {l : List Nat} (h : (l.all fun x => decide (x < 256)) = true) : Small l := fun x hx => by simpa using List.all_eq_true.1 h x hx
theorem sPr_small {k v : List Nat} (hk : Small k) (hv : Small v) : Small (sPr k v) := small_app (small_app (small_cons (by decide) hv) (small_cons (by decide) hk)) (small_lit rfl)
theorem tPr_small {k : List Nat} (hk : Small k) : Small (tPr k) := small_app (small_cons (by decide) hk) (small_lit rfl)
end Go.Own
namespace Go.Proofs.YgcsalGreat
open Go.RowKit Go.Own
theorem head0 {k x : List Nat} (lk : k.length = 32) (lx : x.length = 32) : HeadC (first0 k x) k x := by
  obtain ⟨b0, b1, b2, b3, b4, b5, b6, b7, b8, b9, b10, b11, b12, b13, b14, b15, b16, b17, b18, b19, b20, b21, b22, b23, b24, b25, b26, b27, b28, b29, b30, b31, eb⟩ := list32 lk
  obtain ⟨d0, d1, d2, d3, d4, d5, d6, d7, d8, d9, d10, d11, d12, d13, d14, d15, d16, d17, d18, d19, d20, d21, d22, d23, d24, d25, d26, d27, d28, d29, d30, d31, ed⟩ := list32 lx
  subst eb ed
  exact ⟨by kernel_rfl, by kernel_rfl, by kernel_rfl, by kernel_rfl, by kernel_rfl⟩
theorem head1 {k x : List Nat} (lk : k.length = 32) (lx : x.length = 32) : HeadC (first1 k x) k x := by
  obtain ⟨b0, b1, b2, b3, b4, b5, b6, b7, b8, b9, b10, b11, b12, b13, b14, b15, b16, b17, b18, b19, b20, b21, b22, b23, b24, b25, b26, b27, b28, b29, b30, b31, eb⟩ := list32 lk
  obtain ⟨d0, d1, d2, d3, d4, d5, d6, d7, d8, d9, d10, d11, d12, d13, d14, d15, d16, d17, d18, d19, d20, d21, d22, d23, d24, d25, d26, d27, d28, d29, d30, d31, ed⟩ := list32 lx
  subst eb ed
  exact ⟨by kernel_rfl, by kernel_rfl, by kernel_rfl, by kernel_rfl, by kernel_rfl⟩
theorem tail0 {k x : List Nat} (lk : k.length = 32) (lx : x.length = 32) : TailC (first0 k x) k 67 := by
  obtain ⟨b0, b1, b2, b3, b4, b5, b6, b7, b8, b9, b10, b11, b12, b13, b14, b15, b16, b17, b18, b19, b20, b21, b22, b23, b24, b25, b26, b27, b28, b29, b30, b31, eb⟩ := list32 lk
  obtain ⟨d0, d1, d2, d3, d4, d5, d6, d7, d8, d9, d10, d11, d12, d13, d14, d15, d16, d17, d18, d19, d20, d21, d22, d23, d24, d25, d26, d27, d28, d29, d30, d31, ed⟩ := list32 lx
  subst eb ed
  exact ⟨by kernel_rfl, by kernel_rfl, by kernel_rfl, by kernel_rfl, by kernel_rfl, by kernel_rfl, by kernel_rfl, by kernel_rfl, by kernel_rfl⟩
theorem tail1 {k x : List Nat} (lk : k.length = 32) (lx : x.length = 32) : TailC (first1 k x) k 77 := by
  obtain ⟨b0, b1, b2, b3, b4, b5, b6, b7, b8, b9, b10, b11, b12, b13, b14, b15, b16, b17, b18, b19, b20, b21, b22, b23, b24, b25, b26, b27, b28, b29, b30, b31, eb⟩ := list32 lk
  obtain ⟨d0, d1, d2, d3, d4, d5, d6, d7, d8, d9, d10, d11, d12, d13, d14, d15, d16, d17, d18, d19, d20, d21, d22, d23, d24, d25, d26, d27, d28, d29, d30, d31, ed⟩ := list32 lx
  subst eb ed
  exact ⟨by kernel_rfl, by kernel_rfl, by kernel_rfl, by kernel_rfl, by kernel_rfl, by kernel_rfl, by kernel_rfl, by kernel_rfl, by kernel_rfl⟩
theorem mid1 {k x : List Nat} (lk : k.length = 32) (lx : x.length = 32) : MidC (first1 k x) := by
  obtain ⟨b0, b1, b2, b3, b4, b5, b6, b7, b8, b9, b10, b11, b12, b13, b14, b15, b16, b17, b18, b19, b20, b21, b22, b23, b24, b25, b26, b27, b28, b29, b30, b31, eb⟩ := list32 lk
  obtain ⟨d0, d1, d2, d3, d4, d5, d6, d7, d8, d9, d10, d11, d12, d13, d14, d15, d16, d17, d18, d19, d20, d21, d22, d23, d24, d25, d26, d27, d28, d29, d30, d31, ed⟩ := list32 lx
  subst eb ed
  exact ⟨by kernel_rfl, by kernel_rfl, by kernel_rfl, by kernel_rfl, by kernel_rfl, by kernel_rfl, by kernel_rfl, by kernel_rfl, by kernel_rfl⟩
theorem headS0 {k x : List Nat} (lk : k.length = 32) (lx : x.length = 32) : HeadC (sPr k x ++ []) k x := by
  obtain ⟨b0, b1, b2, b3, b4, b5, b6, b7, b8, b9, b10, b11, b12, b13, b14, b15, b16, b17, b18, b19, b20, b21, b22, b23, b24, b25, b26, b27, b28, b29, b30, b31, eb⟩ := list32 lk
  obtain ⟨d0, d1, d2, d3, d4, d5, d6, d7, d8, d9, d10, d11, d12, d13, d14, d15, d16, d17, d18, d19, d20, d21, d22, d23, d24, d25, d26, d27, d28, d29, d30, d31, ed⟩ := list32 lx
  subst eb ed
  exact ⟨by kernel_rfl, by kernel_rfl, by kernel_rfl, by kernel_rfl, by kernel_rfl⟩
theorem headS1 {k x : List Nat} (lk : k.length = 32) (lx : x.length = 32) : HeadC (sPr k x ++ [0]) k x := by
  obtain ⟨b0, b1, b2, b3, b4, b5, b6, b7, b8, b9, b10, b11, b12, b13, b14, b15, b16, b17, b18, b19, b20, b21, b22, b23, b24, b25, b26, b27, b28, b29, b30, b31, eb⟩ := list32 lk
  obtain ⟨d0, d1, d2, d3, d4, d5, d6, d7, d8, d9, d10, d11, d12, d13, d14, d15, d16, d17, d18, d19, d20, d21, d22, d23, d24, d25, d26, d27, d28, d29, d30, d31, ed⟩ := list32 lx
  subst eb ed
  exact ⟨by kernel_rfl, by kernel_rfl, by kernel_rfl, by kernel_rfl, by kernel_rfl⟩
theorem headS2 {k x : List Nat} (lk : k.length = 32) (lx : x.length = 32) : HeadC (sPr k x ++ [95, 95, 253]) k x := by
  obtain ⟨b0, b1, b2, b3, b4, b5, b6, b7, b8, b9, b10, b11, b12, b13, b14, b15, b16, b17, b18, b19, b20, b21, b22, b23, b24, b25, b26, b27, b28, b29, b30, b31, eb⟩ := list32 lk
  obtain ⟨d0, d1, d2, d3, d4, d5, d6, d7, d8, d9, d10, d11, d12, d13, d14, d15, d16, d17, d18, d19, d20, d21, d22, d23, d24, d25, d26, d27, d28, d29, d30, d31, ed⟩ := list32 lx
  subst eb ed
  exact ⟨by kernel_rfl, by kernel_rfl, by kernel_rfl, by kernel_rfl, by kernel_rfl⟩
theorem headS3 {k x : List Nat} (lk : k.length = 32) (lx : x.length = 32) : HeadC (sPr k x ++ [254]) k x := by
  obtain ⟨b0, b1, b2, b3, b4, b5, b6, b7, b8, b9, b10, b11, b12, b13, b14, b15, b16, b17, b18, b19, b20, b21, b22, b23, b24, b25, b26, b27, b28, b29, b30, b31, eb⟩ := list32 lk
  obtain ⟨d0, d1, d2, d3, d4, d5, d6, d7, d8, d9, d10, d11, d12, d13, d14, d15, d16, d17, d18, d19, d20, d21, d22, d23, d24, d25, d26, d27, d28, d29, d30, d31, ed⟩ := list32 lx
  subst eb ed
  exact ⟨by kernel_rfl, by kernel_rfl, by kernel_rfl, by kernel_rfl, by kernel_rfl⟩
theorem endS1 {k x : List Nat} (lk : k.length = 32) (lx : x.length = 32) : (sPr k x ++ [0])[67]? = some 0 := by
  obtain ⟨b0, b1, b2, b3, b4, b5, b6, b7, b8, b9, b10, b11, b12, b13, b14, b15, b16, b17, b18, b19, b20, b21, b22, b23, b24, b25, b26, b27, b28, b29, b30, b31, eb⟩ := list32 lk
  obtain ⟨d0, d1, d2, d3, d4, d5, d6, d7, d8, d9, d10, d11, d12, d13, d14, d15, d16, d17, d18, d19, d20, d21, d22, d23, d24, d25, d26, d27, d28, d29, d30, d31, ed⟩ := list32 lx
  subst eb ed
  kernel_rfl
theorem endS2_67 {k x : List Nat} (lk : k.length = 32) (lx : x.length = 32) : (sPr k x ++ [95, 95, 253])[67]? = some 95 := by
  obtain ⟨b0, b1, b2, b3, b4, b5, b6, b7, b8, b9, b10, b11, b12, b13, b14, b15, b16, b17, b18, b19, b20, b21, b22, b23, b24, b25, b26, b27, b28, b29, b30, b31, eb⟩ := list32 lk
  obtain ⟨d0, d1, d2, d3, d4, d5, d6, d7, d8, d9, d10, d11, d12, d13, d14, d15, d16, d17, d18, d19, d20, d21, d22, d23, d24, d25, d26, d27, d28, d29, d30, d31, ed⟩ := list32 lx
  subst eb ed
  kernel_rfl
theorem endS2_68 {k x : List Nat} (lk : k.length = 32) (lx : x.length = 32) : (sPr k x ++ [95, 95, 253])[68]? = some 95 := by
  obtain ⟨b0, b1, b2, b3, b4, b5, b6, b7, b8, b9, b10, b11, b12, b13, b14, b15, b16, b17, b18, b19, b20, b21, b22, b23, b24, b25, b26, b27, b28, b29, b30, b31, eb⟩ := list32 lk
  obtain ⟨d0, d1, d2, d3, d4, d5, d6, d7, d8, d9, d10, d11, d12, d13, d14, d15, d16, d17, d18, d19, d20, d21, d22, d23, d24, d25, d26, d27, d28, d29, d30, d31, ed⟩ := list32 lx
  subst eb ed
  kernel_rfl
theorem endS2_69 {k x : List Nat} (lk : k.length = 32) (lx : x.length = 32) : (sPr k x ++ [95, 95, 253])[69]? = some 253 := by
  obtain ⟨b0, b1, b2, b3, b4, b5, b6, b7, b8, b9, b10, b11, b12, b13, b14, b15, b16, b17, b18, b19, b20, b21, b22, b23, b24, b25, b26, b27, b28, b29, b30, b31, eb⟩ := list32 lk
  obtain ⟨d0, d1, d2, d3, d4, d5, d6, d7, d8, d9, d10, d11, d12, d13, d14, d15, d16, d17, d18, d19, d20, d21, d22, d23, d24, d25, d26, d27, d28, d29, d30, d31, ed⟩ := list32 lx
  subst eb ed
  kernel_rfl
theorem endS3 {k x : List Nat} (lk : k.length = 32) (lx : x.length = 32) : (sPr k x ++ [254])[67]? = some 254 := by
  obtain ⟨b0, b1, b2, b3, b4, b5, b6, b7, b8, b9, b10, b11, b12, b13, b14, b15, b16, b17, b18, b19, b20, b21, b22, b23, b24, b25, b26, b27, b28, b29, b30, b31, eb⟩ := list32 lk
  obtain ⟨d0, d1, d2, d3, d4, d5, d6, d7, d8, d9, d10, d11, d12, d13, d14, d15, d16, d17, d18, d19, d20, d21, d22, d23, d24, d25, d26, d27, d28, d29, d30, d31, ed⟩ := list32 lx
  subst eb ed
  kernel_rfl
theorem apply_0 (c : Nat) (k x y : List Nat) (va tv nv bv cu nv2 bv2 cu2 nv3 bv3 : Value) (w : World) (lk : k.length = 32) (lx : x.length = 32) (ly : y.length = 32) (sx : Small x) (sy : Small y) (hc : w.heap[c]? = some (.cells (ch0 va tv) 119 (0, 0))) (hv : AcsV w va (l3 nv bv cu nilS nv2 bv2 cu2 nv3 bv3)) (h1 : NumV w nv 1) (h2 : NumV w bv 0) (h3 : NatV w cu (first0 k x)) (h4 : NumV w nv2 1) (h5 : NumV w bv2 0) (h6 : NatV w cu2 (sPr k y ++ [])) (h7 : NumV w nv3 0) (h8 : NumV w bv3 340282366920938463463374607431768211456) (h9 : NumV w tv 340282366920938463463374607431768211456) :
    Calls Salg.prog 35 #[.pointer (some ⟨c, 0, none⟩), .agg (txP nilS).toArray] w fun e w' => ∃ (ou : Value) (U : Nat) (cs : Array Value) (va nv bv cu sl nv2 bv2 cu2 nv3 bb : Value), e = .returned (.agg (rcL (n64 U) ou).toArray) ∧ NatV w' ou x ∧ w'.heap[c]? = some (.cells cs 119 (0, 0)) ∧ cs[0]? = some va ∧ AcsV w' va (l3 nv bv cu sl nv2 bv2 cu2 nv3 bb) ∧ PartsW w' nv bv cu sl nv2 bv2 cu2 nv3 (slotNew (be k) (be x)) (first0 k x) (sPr k y ++ []) ∧ NumV w' bb 340282366920938463463374607431768211456 ∧ Kept [c] w w' := by
  have hl : (first0 k x).length ≤ 1000 := by simp [first0, first1, sPr, tPr, lk, lx]
  have hl2 : (sPr k y ++ []).length ≤ 1000 := by simp [sPr, lk, ly]
  refine apply_ok c 10 x (slotNew (be k) (be x)) (first0 k x) (sPr k y ++ []) w (lt_of_row hc) fun w1 K1 => ?_
  have hc1 := K1.row hc (by simp)
  have hnb : ∀ t l, Obj.cells (ch0 va tv) 119 (0, 0) ≠ R8 t l := not_bytes_at (i := 4) (p := none) (n := 0) (m := 0) (by kernel_rfl)
  refine (begin3_ok c va tv nv bv cu nv2 bv2 cu2 nv3 bv3 (first0 k x) (sPr k y ++ []) w1 hc1 (hv.kept K1) (h1.kept K1) (h2.kept K1) (h3.kept K1) (h4.kept K1) (h5.kept K1) (h6.kept K1) (h7.kept K1) (h8.kept K1)).mono ?_
  rintro e w2 ⟨fb, cap, cur, vz, wz, nn, bb, lim, pr, gv, vv, cu3, a0, a1, a2, a3, rfl, e1, e2, hFR, e4, e5, e6, e7, e8, e9, ea, hvv, ec, ed, K2⟩
  refine ⟨rfl, ?_⟩
  have q1 := (h1.kept K1).keptC K2 hc1 hnb
  have q2 := (h2.kept K1).keptC K2 hc1 hnb
  have q3 := (h3.kept K1).keptC K2 hc1 hnb
  have q4 := (h4.kept K1).keptC K2 hc1 hnb
  have q5 := (h5.kept K1).keptC K2 hc1 hnb
  have q6 := (h6.kept K1).keptC K2 hc1 hnb
  have q9 := (h9.kept K1).keptC K2 hc1 hnb
  have hO : OutF cur gv vv cu3 nilS a0 a1 a2 a3 := ⟨fun j j1 _ _ _ _ => (hFR.1 j j1).trans (by rw [show (frL gv vv cu3 nilS (wrow4 a0 a1 a2 a3)).set 7 nilS = frL gv vv cu3 nilS (wrow4 a0 a1 a2 a3) from by kernel_rfl]), by have := hFR.2.1; have := hFR.2.2.2.1; omega, by rw [show (frL gv vv cu3 nilS (wrow4 a0 a1 a2 a3)).set 7 nilS = frL gv vv cu3 nilS (wrow4 a0 a1 a2 a3) from by kernel_rfl]; exact hFR.2.2.2.2⟩
  have hB : StB 179000 179000 0 w1 (fun w => NatV w cu3 (first0 k x)) c fb 0 1 cap cur 0 [] nilS la5 none none (first0 k x) (sPr k y ++ []) w2 := ⟨179000, 0, Nat.le_refl _, Nat.le_refl _, Nat.le_refl _, K2, ed, ⟨vz, wz, nilS, nilS, lim, gv, pr, tv, e1, ⟨nv, bv, cu, nilS, nv2, bv2, cu2, nn, bb, e4, e5, rfl, nil_num _, rfl, q1, q2, q3, q4, q5, q6, e6, e7⟩, e8, e9, q9, ea.one⟩, ⟨cur, nilS, gv, nilS, [], e2, rfl, fun _ _ _ _ _ => rfl, hFR.1 3 (by decide), nil_num _, hFR.1 4 (by decide), ea, hFR.1 8 (by decide), .inl ⟨rfl, rfl⟩, ⟨rfl, fun j v n h => by simp at h⟩, hFR.1 9 (by decide)⟩, ec⟩
  exact run_zero (hR := 0) k x hB hO hFR.2.2.2.1 (head0 lk lx) (tail0 lk lx) hl lx sx
theorem apply_1 (c : Nat) (k x y : List Nat) (va tv nv bv cu nv2 bv2 cu2 nv3 bv3 : Value) (w : World) (lk : k.length = 32) (lx : x.length = 32) (ly : y.length = 32) (sx : Small x) (sy : Small y) (hc : w.heap[c]? = some (.cells (ch0 va tv) 119 (0, 0))) (hv : AcsV w va (l3 nv bv cu nilS nv2 bv2 cu2 nv3 bv3)) (h1 : NumV w nv 1) (h2 : NumV w bv 0) (h3 : NatV w cu (first1 k x)) (h4 : NumV w nv2 1) (h5 : NumV w bv2 0) (h6 : NatV w cu2 (sPr k y ++ [0])) (h7 : NumV w nv3 0) (h8 : NumV w bv3 340282366920938463463374607431768211456) (h9 : NumV w tv 340282366920938463463374607431768211456) :
    Calls Salg.prog 35 #[.pointer (some ⟨c, 0, none⟩), .agg (txP nilS).toArray] w fun e w' => ∃ (ou : Value) (U : Nat) (cs : Array Value) (va nv bv cu sl nv2 bv2 cu2 nv3 bb : Value), e = .returned (.agg (rcL (n64 U) ou).toArray) ∧ NatV w' ou y ∧ w'.heap[c]? = some (.cells cs 119 (0, 0)) ∧ cs[0]? = some va ∧ AcsV w' va (l3 nv bv cu sl nv2 bv2 cu2 nv3 bb) ∧ PartsW w' nv bv cu sl nv2 bv2 cu2 nv3 (slotNew (be k) (be y)) (first1 k x) (sPr k y ++ [0]) ∧ NumV w' bb 340282366920938463463374607431768211456 ∧ Kept [c] w w' := by
  have hl : (first1 k x).length ≤ 1000 := by simp [first0, first1, sPr, tPr, lk, lx]
  have hl2 : (sPr k y ++ [0]).length ≤ 1000 := by simp [sPr, lk, ly]
  refine apply_ok c 21 y (slotNew (be k) (be y)) (first1 k x) (sPr k y ++ [0]) w (lt_of_row hc) fun w1 K1 => ?_
  have hc1 := K1.row hc (by simp)
  have hnb : ∀ t l, Obj.cells (ch0 va tv) 119 (0, 0) ≠ R8 t l := not_bytes_at (i := 4) (p := none) (n := 0) (m := 0) (by kernel_rfl)
  refine (begin3_ok c va tv nv bv cu nv2 bv2 cu2 nv3 bv3 (first1 k x) (sPr k y ++ [0]) w1 hc1 (hv.kept K1) (h1.kept K1) (h2.kept K1) (h3.kept K1) (h4.kept K1) (h5.kept K1) (h6.kept K1) (h7.kept K1) (h8.kept K1)).mono ?_
  rintro e w2 ⟨fb, cap, cur, vz, wz, nn, bb, lim, pr, gv, vv, cu3, a0, a1, a2, a3, rfl, e1, e2, hFR, e4, e5, e6, e7, e8, e9, ea, hvv, ec, ed, K2⟩
  refine ⟨rfl, ?_⟩
  have q1 := (h1.kept K1).keptC K2 hc1 hnb
  have q2 := (h2.kept K1).keptC K2 hc1 hnb
  have q3 := (h3.kept K1).keptC K2 hc1 hnb
  have q4 := (h4.kept K1).keptC K2 hc1 hnb
  have q5 := (h5.kept K1).keptC K2 hc1 hnb
  have q6 := (h6.kept K1).keptC K2 hc1 hnb
  have q9 := (h9.kept K1).keptC K2 hc1 hnb
  have hO : OutF cur gv vv cu3 nilS a0 a1 a2 a3 := ⟨fun j j1 _ _ _ _ => (hFR.1 j j1).trans (by rw [show (frL gv vv cu3 nilS (wrow4 a0 a1 a2 a3)).set 7 nilS = frL gv vv cu3 nilS (wrow4 a0 a1 a2 a3) from by kernel_rfl]), by have := hFR.2.1; have := hFR.2.2.2.1; omega, by rw [show (frL gv vv cu3 nilS (wrow4 a0 a1 a2 a3)).set 7 nilS = frL gv vv cu3 nilS (wrow4 a0 a1 a2 a3) from by kernel_rfl]; exact hFR.2.2.2.2⟩
  have hB : StB 179000 179000 0 w1 (fun w => NatV w cu3 (first1 k x)) c fb 0 1 cap cur 0 [] nilS la5 none none (first1 k x) (sPr k y ++ [0]) w2 := ⟨179000, 0, Nat.le_refl _, Nat.le_refl _, Nat.le_refl _, K2, ed, ⟨vz, wz, nilS, nilS, lim, gv, pr, tv, e1, ⟨nv, bv, cu, nilS, nv2, bv2, cu2, nn, bb, e4, e5, rfl, nil_num _, rfl, q1, q2, q3, q4, q5, q6, e6, e7⟩, e8, e9, q9, ea.one⟩, ⟨cur, nilS, gv, nilS, [], e2, rfl, fun _ _ _ _ _ => rfl, hFR.1 3 (by decide), nil_num _, hFR.1 4 (by decide), ea, hFR.1 8 (by decide), .inl ⟨rfl, rfl⟩, ⟨rfl, fun j v n h => by simp at h⟩, hFR.1 9 (by decide)⟩, ec⟩
  exact run_one k x y hB hO hvv.one hFR.2.1 hFR.2.2.1 hFR.2.2.2.1 (head1 lk lx) (mid1 lk lx) (tail1 lk lx) (headS1 lk ly) (endS1 lk ly) hl hl2 ly sy
theorem apply_2 (c : Nat) (k x y : List Nat) (va tv nv bv cu nv2 bv2 cu2 nv3 bv3 : Value) (w : World) (lk : k.length = 32) (lx : x.length = 32) (ly : y.length = 32) (sx : Small x) (sy : Small y) (hc : w.heap[c]? = some (.cells (ch0 va tv) 119 (0, 0))) (hv : AcsV w va (l3 nv bv cu nilS nv2 bv2 cu2 nv3 bv3)) (h1 : NumV w nv 1) (h2 : NumV w bv 0) (h3 : NatV w cu (first1 k x)) (h4 : NumV w nv2 1) (h5 : NumV w bv2 0) (h6 : NatV w cu2 (sPr k y ++ [95, 95, 253])) (h7 : NumV w nv3 0) (h8 : NumV w bv3 340282366920938463463374607431768211456) (h9 : NumV w tv 340282366920938463463374607431768211456) :
    Calls Salg.prog 35 #[.pointer (some ⟨c, 0, none⟩), .agg (txP nilS).toArray] w fun e w' => ∃ (ou : Value) (U : Nat) (cs : Array Value) (va nv bv cu sl nv2 bv2 cu2 nv3 bb : Value), e = .returned (.agg (rcL (n64 U) ou).toArray) ∧ NatV w' ou x ∧ w'.heap[c]? = some (.cells cs 119 (0, 0)) ∧ cs[0]? = some va ∧ AcsV w' va (l3 nv bv cu sl nv2 bv2 cu2 nv3 bb) ∧ PartsW w' nv bv cu sl nv2 bv2 cu2 nv3 (slotNew (be k) (be x)) (first1 k x) (sPr k y ++ [95, 95, 253]) ∧ NumV w' bb 340282366920938463463374607431768211456 ∧ Kept [c] w w' := by
  have hl : (first1 k x).length ≤ 1000 := by simp [first0, first1, sPr, tPr, lk, lx]
  have hl2 : (sPr k y ++ [95, 95, 253]).length ≤ 1000 := by simp [sPr, lk, ly]
  refine apply_ok c 23 x (slotNew (be k) (be x)) (first1 k x) (sPr k y ++ [95, 95, 253]) w (lt_of_row hc) fun w1 K1 => ?_
  have hc1 := K1.row hc (by simp)
  have hnb : ∀ t l, Obj.cells (ch0 va tv) 119 (0, 0) ≠ R8 t l := not_bytes_at (i := 4) (p := none) (n := 0) (m := 0) (by kernel_rfl)
  refine (begin3_ok c va tv nv bv cu nv2 bv2 cu2 nv3 bv3 (first1 k x) (sPr k y ++ [95, 95, 253]) w1 hc1 (hv.kept K1) (h1.kept K1) (h2.kept K1) (h3.kept K1) (h4.kept K1) (h5.kept K1) (h6.kept K1) (h7.kept K1) (h8.kept K1)).mono ?_
  rintro e w2 ⟨fb, cap, cur, vz, wz, nn, bb, lim, pr, gv, vv, cu3, a0, a1, a2, a3, rfl, e1, e2, hFR, e4, e5, e6, e7, e8, e9, ea, hvv, ec, ed, K2⟩
  refine ⟨rfl, ?_⟩
  have q1 := (h1.kept K1).keptC K2 hc1 hnb
  have q2 := (h2.kept K1).keptC K2 hc1 hnb
  have q3 := (h3.kept K1).keptC K2 hc1 hnb
  have q4 := (h4.kept K1).keptC K2 hc1 hnb
  have q5 := (h5.kept K1).keptC K2 hc1 hnb
  have q6 := (h6.kept K1).keptC K2 hc1 hnb
  have q9 := (h9.kept K1).keptC K2 hc1 hnb
  have hO : OutF cur gv vv cu3 nilS a0 a1 a2 a3 := ⟨fun j j1 _ _ _ _ => (hFR.1 j j1).trans (by rw [show (frL gv vv cu3 nilS (wrow4 a0 a1 a2 a3)).set 7 nilS = frL gv vv cu3 nilS (wrow4 a0 a1 a2 a3) from by kernel_rfl]), by have := hFR.2.1; have := hFR.2.2.2.1; omega, by rw [show (frL gv vv cu3 nilS (wrow4 a0 a1 a2 a3)).set 7 nilS = frL gv vv cu3 nilS (wrow4 a0 a1 a2 a3) from by kernel_rfl]; exact hFR.2.2.2.2⟩
  have hB : StB 179000 179000 0 w1 (fun w => NatV w cu3 (first1 k x)) c fb 0 1 cap cur 0 [] nilS la5 none none (first1 k x) (sPr k y ++ [95, 95, 253]) w2 := ⟨179000, 0, Nat.le_refl _, Nat.le_refl _, Nat.le_refl _, K2, ed, ⟨vz, wz, nilS, nilS, lim, gv, pr, tv, e1, ⟨nv, bv, cu, nilS, nv2, bv2, cu2, nn, bb, e4, e5, rfl, nil_num _, rfl, q1, q2, q3, q4, q5, q6, e6, e7⟩, e8, e9, q9, ea.one⟩, ⟨cur, nilS, gv, nilS, [], e2, rfl, fun _ _ _ _ _ => rfl, hFR.1 3 (by decide), nil_num _, hFR.1 4 (by decide), ea, hFR.1 8 (by decide), .inl ⟨rfl, rfl⟩, ⟨rfl, fun j v n h => by simp at h⟩, hFR.1 9 (by decide)⟩, ec⟩
  exact run_two k x y hB hO hvv.one hFR.2.1 hFR.2.2.1 hFR.2.2.2.1 (head1 lk lx) (mid1 lk lx) (tail1 lk lx) (headS2 lk ly) (endS2_67 lk ly) (endS2_68 lk ly) (endS2_69 lk ly) hl hl2 lx sx
theorem apply_3 (c : Nat) (k x y : List Nat) (va tv nv bv cu nv2 bv2 cu2 nv3 bv3 : Value) (w : World) (lk : k.length = 32) (lx : x.length = 32) (ly : y.length = 32) (sx : Small x) (sy : Small y) (hc : w.heap[c]? = some (.cells (ch0 va tv) 119 (0, 0))) (hv : AcsV w va (l3 nv bv cu nilS nv2 bv2 cu2 nv3 bv3)) (h1 : NumV w nv 1) (h2 : NumV w bv 0) (h3 : NatV w cu (first1 k x)) (h4 : NumV w nv2 1) (h5 : NumV w bv2 0) (h6 : NatV w cu2 (sPr k y ++ [254])) (h7 : NumV w nv3 0) (h8 : NumV w bv3 340282366920938463463374607431768211456) (h9 : NumV w tv 340282366920938463463374607431768211456) :
    Calls Salg.prog 35 #[.pointer (some ⟨c, 0, none⟩), .agg (txP nilS).toArray] w fun e w' => ∃ (ou : Value) (U : Nat) (cs : Array Value) (va nv bv cu sl nv2 bv2 cu2 nv3 bb : Value), e = .returned (.agg (rcL (n64 U) ou).toArray) ∧ NatV w' ou x ∧ w'.heap[c]? = some (.cells cs 119 (0, 0)) ∧ cs[0]? = some va ∧ AcsV w' va (l3 nv bv cu sl nv2 bv2 cu2 nv3 bb) ∧ PartsW w' nv bv cu sl nv2 bv2 cu2 nv3 (slotNew (be k) (be x)) (first1 k x) (sPr k y ++ [254]) ∧ NumV w' bb 340282366920938463463374607431768211456 ∧ Kept [c] w w' := by
  have hl : (first1 k x).length ≤ 1000 := by simp [first0, first1, sPr, tPr, lk, lx]
  have hl2 : (sPr k y ++ [254]).length ≤ 1000 := by simp [sPr, lk, ly]
  refine apply_ok c 21 x (slotNew (be k) (be x)) (first1 k x) (sPr k y ++ [254]) w (lt_of_row hc) fun w1 K1 => ?_
  have hc1 := K1.row hc (by simp)
  have hnb : ∀ t l, Obj.cells (ch0 va tv) 119 (0, 0) ≠ R8 t l := not_bytes_at (i := 4) (p := none) (n := 0) (m := 0) (by kernel_rfl)
  refine (begin3_ok c va tv nv bv cu nv2 bv2 cu2 nv3 bv3 (first1 k x) (sPr k y ++ [254]) w1 hc1 (hv.kept K1) (h1.kept K1) (h2.kept K1) (h3.kept K1) (h4.kept K1) (h5.kept K1) (h6.kept K1) (h7.kept K1) (h8.kept K1)).mono ?_
  rintro e w2 ⟨fb, cap, cur, vz, wz, nn, bb, lim, pr, gv, vv, cu3, a0, a1, a2, a3, rfl, e1, e2, hFR, e4, e5, e6, e7, e8, e9, ea, hvv, ec, ed, K2⟩
  refine ⟨rfl, ?_⟩
  have q1 := (h1.kept K1).keptC K2 hc1 hnb
  have q2 := (h2.kept K1).keptC K2 hc1 hnb
  have q3 := (h3.kept K1).keptC K2 hc1 hnb
  have q4 := (h4.kept K1).keptC K2 hc1 hnb
  have q5 := (h5.kept K1).keptC K2 hc1 hnb
  have q6 := (h6.kept K1).keptC K2 hc1 hnb
  have q9 := (h9.kept K1).keptC K2 hc1 hnb
  have hO : OutF cur gv vv cu3 nilS a0 a1 a2 a3 := ⟨fun j j1 _ _ _ _ => (hFR.1 j j1).trans (by rw [show (frL gv vv cu3 nilS (wrow4 a0 a1 a2 a3)).set 7 nilS = frL gv vv cu3 nilS (wrow4 a0 a1 a2 a3) from by kernel_rfl]), by have := hFR.2.1; have := hFR.2.2.2.1; omega, by rw [show (frL gv vv cu3 nilS (wrow4 a0 a1 a2 a3)).set 7 nilS = frL gv vv cu3 nilS (wrow4 a0 a1 a2 a3) from by kernel_rfl]; exact hFR.2.2.2.2⟩
  have hB : StB 179000 179000 0 w1 (fun w => NatV w cu3 (first1 k x)) c fb 0 1 cap cur 0 [] nilS la5 none none (first1 k x) (sPr k y ++ [254]) w2 := ⟨179000, 0, Nat.le_refl _, Nat.le_refl _, Nat.le_refl _, K2, ed, ⟨vz, wz, nilS, nilS, lim, gv, pr, tv, e1, ⟨nv, bv, cu, nilS, nv2, bv2, cu2, nn, bb, e4, e5, rfl, nil_num _, rfl, q1, q2, q3, q4, q5, q6, e6, e7⟩, e8, e9, q9, ea.one⟩, ⟨cur, nilS, gv, nilS, [], e2, rfl, fun _ _ _ _ _ => rfl, hFR.1 3 (by decide), nil_num _, hFR.1 4 (by decide), ea, hFR.1 8 (by decide), .inl ⟨rfl, rfl⟩, ⟨rfl, fun j v n h => by simp at h⟩, hFR.1 9 (by decide)⟩, ec⟩
  exact run_three k x y hB hO hvv.one hFR.2.1 hFR.2.2.1 hFR.2.2.2.1 (head1 lk lx) (mid1 lk lx) (tail1 lk lx) (headS3 lk ly) (endS3 lk ly) hl hl2 lx sx
end Go.Proofs.YgcsalGreat

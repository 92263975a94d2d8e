/-
  Laws at operations that change the world, at 'wpList' and inside a drawn stage: literals of one element, append, copy from anywhere.
-/
import Derived.Test.YgcsalGreatEff
import Derived.Test.YgcsalGreatMv6
import Derived.Laws.CopyRow
set_option linter.unusedSimpArgs false
set_option linter.unusedVariables false
namespace Go.Own
section
variable {P : Program} {a : Act} {w : World}
theorem run_buildIt {d : Option Tmp} {t e ty : TypeId} {pos : String} {after : Array Edge} {g : Option (Nat × Bool)} {x : Operand} {u : Value} {vs : Array Value} {s : Nat} (hx : a.eval x = u) (hc : u.cells = vs) (hu : P.underlying t = some (.slice e)) (hsz : (P.info? e).map (·.size) = some s) (hz : ((P.info? e).bind (·.zero)).isSome = true)
    (hs : vs.size = s) (h0 : 0 < s) (h24 : s ≤ 16777216) :
    (execOp a.eval { dst := d, op := .buildSlice t 1 #[(0, x)], type := ty, pos := pos, after := after, guard := g }).run P w = .ok (.value (.slice (some ⟨w.heap.size, 0, none⟩) 1 1)) { w with heap := w.heap.push (.cells vs e (0, 0)) } := by
  cases hie : P.info? e with
  | none => simp [hie] at hsz
  | some ie =>
    simp only [hie, Option.map_some, Option.some.injEq, Option.bind_some] at hsz hz
    obtain ⟨z, hzz⟩ := Option.isSome_iff_exists.1 hz
    have hfill : Instr.fill (fun i => some (i * ie.size, ie.size)) ((Array.range (1 * ie.size)).map (z.cells[· % z.cells.size]!)) (#[(0, u)] : Array (Nat × Value)).toList = some vs := by
      rw [hsz]
      obtain ⟨r, hr, hrs, hk⟩ := Great.fill_dense (s := s) h0 [u] 0 ((Array.range (1 * s)).map (z.cells[· % z.cells.size]!)) (fun v hv => by simp at hv; subst hv; rw [hc]; exact hs) (by simp)
      have he : r = vs := by
        apply Array.ext_getElem?
        intro j
        rw [hk j]
        by_cases hj : j < s
        · rw [if_pos (by simpa using hj), Nat.div_eq_of_lt hj, Nat.mod_eq_of_lt hj]
          simp [hc]
        · rw [if_neg (by simpa using hj), Array.getElem?_eq_none (by simp; omega), Array.getElem?_eq_none (by omega)]
      rw [he] at hr
      simpa using hr
    have := run_buildSlice (P := P) w t e 1 #[(0, u)] vs ie z hu hie hzz (by rw [hsz]; omega) (by rw [hsz]; omega) hfill
    simp [execOp, hx, this]
theorem run_appendIt {d : Option Tmp} {s1 s2 : Operand} {t e ty : TypeId} {pos : String} {after : Array Edge} {gg : Option (Nat × Bool)} {base n m s by1 bn so cap : Nat} {z v : Value} {xs news : List Value} {cs : Array Value} {tn : TypeId} {fr : Nat × Nat}
    (hinfo : (P.info? e).map (fun i => (i.zero, i.size, i.bytes)) = some (some z, s, by1)) (hu : P.underlying t = some (.slice e)) (hzs : z.cells.size = s) (h0 : 0 < s) (hby : by1 ≤ 100000)
    (hs1 : a.eval s1 = v) (hs2 : a.eval s2 = .slice (some ⟨bn, so, none⟩) m cap) (hown : w.ownsRow base e s v n xs) (hn : n + m ≤ 1000000) (hr : w.heap[bn]? = some (.cells cs tn fr)) (hl : news.length = m * s) (hc : ∀ (j : Nat) (u : Value), news[j]? = some u → cs[so + j]? = some u) (h1 : ∀ u ∈ news, u.oneCell' = true)
    (hbw : base ≤ w.heap.size) :
    ∃ v' w', (execOp a.eval { dst := d, op := .call { callee := .builtin .append, args := #[s1, s2], argTypes := #[t, t] }, type := ty, pos := pos, after := after, guard := gg }).run P w = .ok (.value v') w' ∧ w'.ownsRow base e s v' (n + m) (xs ++ news) ∧ Kept v.ownBlock.toList w w' := by
  cases hie : P.info? e with
  | none => simp [hie] at hinfo
  | some ie =>
    simp only [hie, Option.map_some, Option.some.injEq, Prod.mk.injEq] at hinfo
    obtain ⟨i1, i2, i3⟩ := hinfo
    obtain ⟨v', w', h2, h3, h4, _⟩ := run_append_own (P := P) w base t ty e ie z s by1 hu hie i1 i2 i3 hzs h0 v n xs hown ⟨bn, so, none⟩ m cap news hl (by
      intro j u hj
      rw [Addr.add_mid, cell_of_row hr]
      exact hc j u hj) h1 (by simp only [maxLen]; omega) (by
      have : (n + m) * by1 ≤ 1000000 * 100000 := Nat.mul_le_mul hn hby
      omega) hbw
    refine ⟨v', w', ?_, h3, ⟨h4.os, h4.tape, h4.output, h4.size, fun k hk hx => h4.block k hk (fun e => hx (by rw [← e]; simp))⟩⟩
    simp only [execOp, resolve, invoke, builtin, Sem.run_bind, Sem.run_pure, Result.andThen_ok, List.map_toArray, List.map_cons, List.map_nil, hs1, hs2, h2]
theorem run_appendG {d : Option Tmp} {s1 s2 : Operand} {t e ty : TypeId} {pos : String} {after : Array Edge} {gg : Option (Nat × Bool)} {g n c m s by1 bn so cap : Nat} {z : Value} {xs news : List Value} {cur cs : Array Value} {tg tn : TypeId} {fr fg : Nat × Nat}
    (hinfo : (P.info? e).map (fun i => (i.zero, i.size, i.bytes)) = some (some z, s, by1)) (hu : P.underlying t = some (.slice e)) (hzs : z.cells.size = s) (h0 : 0 < s) (hby : by1 ≤ 100000)
    (hs1 : a.eval s1 = .slice (some ⟨g, 0, none⟩) n c) (hs2 : a.eval s2 = .slice (some ⟨bn, so, none⟩) m cap) (hg : w.heap[g]? = some (.cells cur tg fg)) (hxl : xs.length = n * s) (hxs : ∀ (j : Nat) (u : Value), xs[j]? = some u → cur[j]? = some u)
    (hn : n + m ≤ 1000000) (hcap : c < n + m) (hr : w.heap[bn]? = some (.cells cs tn fr)) (hl : news.length = m * s) (hc : ∀ (j : Nat) (u : Value), news[j]? = some u → cs[so + j]? = some u) :
    ∃ v' w', (execOp a.eval { dst := d, op := .call { callee := .builtin .append, args := #[s1, s2], argTypes := #[t, t] }, type := ty, pos := pos, after := after, guard := gg }).run P w = .ok (.value v') w' ∧ w'.ownsRow w.heap.size e s v' (n + m) (xs ++ news) ∧ Kept [] w w' := by
  cases hie : P.info? e with
  | none => simp [hie] at hinfo
  | some ie =>
    simp only [hie, Option.map_some, Option.some.injEq, Prod.mk.injEq] at hinfo
    obtain ⟨i1, i2, i3⟩ := hinfo
    subst i2
    subst i3
    have h63 : n + m ≤ maxLen := by simp only [maxLen]; omega
    have hby' : (n + m) * ie.bytes ≤ 140737488355328 := by
      have : (n + m) * ie.bytes ≤ 1000000 * 100000 := Nat.mul_le_mul hn hby
      omega
    have hlen : (xs ++ news).length = (n + m) * ie.size := by rw [List.length_append, hxl, hl, Nat.add_mul]
    have h2 := run_append_grow (P := P) w t ty e ie z hu hie i1 ⟨g, 0, none⟩ n c xs hxl (by
      intro j u hj
      rw [Addr.add_mid, cell_of_row hg, Nat.zero_add]
      exact hxs j u hj) ⟨bn, so, none⟩ m cap news hl (by
      intro j u hj
      rw [Addr.add_mid, cell_of_row hr]
      exact hc j u hj) hcap (by simp only [maxLen] at h63; omega) (growslice_fits (by omega) hby')
    have hge := grownCap_ge w (n + m) c e
    have hcm : grownCap w (n + m) c e ≤ maxLen := grownCap_le_maxLen w (n + m) c e h63
    refine ⟨.slice (some ⟨w.heap.size, 0, none⟩) (n + m) (grownCap w (n + m) c e), w.drew.alloc (.cells (xs.toArray ++ news.toArray ++ Builtin.zeroCells z.cells (grownCap w (n + m) c e - (n + m))) e), ?_, ⟨hlen, .inr ⟨w.heap.size, grownCap w (n + m) c e, xs.toArray ++ news.toArray ++ Builtin.zeroCells z.cells (grownCap w (n + m) c e - (n + m)), rfl, Nat.le_refl _, heap_alloc_new w.drew _, hge, hcm, ?_, ?_⟩⟩, ⟨rfl, rfl, rfl, by simp, fun k hk _ => Go.heap_alloc_old w.drew _ hk⟩⟩
    · simp only [execOp, resolve, invoke, builtin, Sem.run_bind, Sem.run_pure, Result.andThen_ok, List.map_toArray, List.map_cons, List.map_nil, hs1, hs2, h2]
    · simp only [Array.size_append, List.size_toArray, size_zeroCells, hzs, hxl, hl, ← Nat.add_mul]
      congr 1
      omega
    · simp only [Array.toList_append, List.append_assoc]
      rw [← List.append_assoc, ← hlen]
      exact List.take_left
theorem run_copyAt {d : Option Tmp} {x y : Operand} {tx ty e ty' : TypeId} {b o dLen dCap b' so sLen sCap : Nat} {t t' : TypeId} {fr : Nat × Nat} {cur cs : Array Value} {news : List Value} {pos : String} {after : Array Edge} {g : Option (Nat × Bool)}
    (hx : a.eval x = .slice (some ⟨b, o, none⟩) dLen dCap) (hy : a.eval y = .slice (some ⟨b', so, none⟩) sLen sCap) (hu : P.underlying tx = some (.slice e)) (hs : (P.info? e).map (·.size) = some 1)
    (hr : w.heap[b]? = some (.cells cur t (0, 0))) (hr' : w.heap[b']? = some (.cells cs t' fr)) (hn : news.length = min sLen dLen) (hsrc : ∀ (j : Nat) (v : Value), news[j]? = some v → cs[so + j]? = some v) (hfit : o + news.length ≤ cur.size) (h1 : ∀ v ∈ news, v.oneCell' = true) :
    ∃ w', (execOp a.eval { dst := d, op := .call { callee := .builtin .copy, args := #[x, y], argTypes := #[tx, ty] }, type := ty', pos := pos, after := after, guard := g }).run P w = .ok (.value (.int .i64 news.length)) w' ∧ Kept [b] w w' ∧
      w'.heap[b]? = some (.cells (cur.toList.take o ++ news ++ cur.toList.drop (o + news.length)).toArray t (0, 0)) := by
  have h := run_copy_row (P := P) w tx ty ty' e b o dLen dCap ⟨b', so, none⟩ sLen sCap cur t news hu hs hr hn (fun j v hv => by rw [Addr.add_mid, cell_of_row hr']; exact hsrc j v hv) hfit h1
  refine ⟨w.setRow b (cur.toList.take o ++ news ++ cur.toList.drop (o + news.length)).toArray, ?_, ⟨rfl, rfl, rfl, by simp [World.setRow], fun k hk hx => setRow_other w b k _ (by simpa using hx)⟩, setRow_heap w b cur _ t _ hr⟩
  rw [BigFrame.execOp_builtin, BigFrame.builtin_copy]
  simp [hx, hy, h, goInt]
end
section
variable {P : Program} {ops : Array Oper} {Q : Exit → Act → World → Prop} {rest : List Oper} {a : Act} {w w0 : World} {X : List Nat} {L : List (Nat × Obj)}
theorem own_apart {base e s n : Nat} {v : Value} {xs : List Value} (h : w.ownsRow base e s v n xs) {p : Nat} (hp : v.ownBlock = some p) : base ≤ p ∧ p < w.heap.size := own_block h hp
theorem Mem.own {w' : World} {v : Value} (M : Mem w0 X L w) (K : Kept v.ownBlock.toList w w') (hb : ∀ q, v.ownBlock = some q → w0.heap.size ≤ q) (hL : ∀ p ∈ L, v.ownBlock ≠ some p.1) : Mem w0 X L w' := by
  refine ⟨⟨by rw [K.os, M.kept.os], by rw [K.tape, M.kept.tape], by rw [K.output, M.kept.output], Nat.le_trans M.kept.size K.size, fun q hq hx => ?_⟩, fun p hp => ?_, M.apart⟩
  · have h1 := M.kept.size
    rw [K.block q (by omega) (fun e => by
      have : v.ownBlock = some q := by simpa using e
      have := hb q this
      omega)]
    exact M.kept.block q hq hx
  · have hlt := M.lt hp
    rw [K.block p.1 hlt (fun e => hL p hp (by simpa using e))]
    exact M.rows p hp
/-- []T{x} at 'wpList'. -/
theorem W_buildIt {d : Tmp} {t e ty : TypeId} {pos : String} {after : Array Edge} {x : Operand} {u : Value} {vs : Array Value} {s : Nat} (M : Mem w0 X L w) (hx : a.eval x = u) (hc : u.cells = vs) (hu : P.underlying t = some (.slice e)) (hsz : (P.info? e).map (·.size) = some s) (hz : ((P.info? e).bind (·.zero)).isSome = true)
    (hs : vs.size = s) (h0 : 0 < s) (h24 : s ≤ 16777216)
    (k : ∀ b w', w0.heap.size ≤ b → w.heap.size ≤ b → Kept [] w w' → Mem w0 X ((b, .cells vs e (0, 0)) :: L) w' → wpList P ops Q rest (a.put (some d) (.slice (some ⟨b, 0, none⟩) 1 1)) w') :
    wpList P ops Q ({ dst := some d, op := .buildSlice t 1 #[(0, x)], type := ty, pos := pos, after := after, guard := none } :: rest) a w := by
  have ⟨h1, h2⟩ := M.alloc (.cells vs e (0, 0))
  exact L_run rfl (run_buildIt hx hc hu hsz hz hs h0 h24) (k _ _ h1 (Nat.le_refl _) ((Mem.start w []).alloc (.cells vs e (0, 0))).2.kept h2)
theorem W_appendIt {d : Tmp} {s1 s2 : Operand} {t e ty : TypeId} {pos : String} {after : Array Edge} {base n m s by1 bn so cap : Nat} {z v : Value} {xs news : List Value} {cs : Array Value} {tn : TypeId} {fr : Nat × Nat} (M : Mem w0 X L w)
    (hinfo : (P.info? e).map (fun i => (i.zero, i.size, i.bytes)) = some (some z, s, by1)) (hu : P.underlying t = some (.slice e)) (hzs : z.cells.size = s) (h0 : 0 < s) (hby : by1 ≤ 100000)
    (hs1 : a.eval s1 = v) (hs2 : a.eval s2 = .slice (some ⟨bn, so, none⟩) m cap) (hown : w.ownsRow base e s v n xs) (hn : n + m ≤ 1000000) (hr : w.heap[bn]? = some (.cells cs tn fr)) (hl : news.length = m * s) (hc : ∀ (j : Nat) (u : Value), news[j]? = some u → cs[so + j]? = some u) (h1 : ∀ u ∈ news, u.oneCell' = true)
    (hb : w0.heap.size ≤ base) (hbw : base ≤ w.heap.size) (hL : ∀ p ∈ L, v.ownBlock ≠ some p.1)
    (k : ∀ v' w', Mem w0 X L w' → w'.ownsRow base e s v' (n + m) (xs ++ news) → base ≤ w'.heap.size → Kept v.ownBlock.toList w w' → wpList P ops Q rest (a.put (some d) v') w') :
    wpList P ops Q ({ dst := some d, op := .call { callee := .builtin .append, args := #[s1, s2], argTypes := #[t, t] }, type := ty, pos := pos, after := after, guard := none } :: rest) a w := by
  obtain ⟨v', w', h2, h3, h4⟩ := run_appendIt (P := P) (a := a) (d := some d) (ty := ty) (pos := pos) (after := after) (gg := none) hinfo hu hzs h0 hby hs1 hs2 hown hn hr hl hc h1 hbw
  exact L_run rfl h2 (k v' w' (M.own h4 (fun q hq => Nat.le_trans hb (own_block hown hq).1) hL) h3 (Nat.le_trans hbw h4.size) h4)
theorem W_appendG {d : Tmp} {s1 s2 : Operand} {t e ty : TypeId} {pos : String} {after : Array Edge} {g n c m s by1 bn so cap : Nat} {z : Value} {xs news : List Value} {cur cs : Array Value} {tg tn : TypeId} {fr fg : Nat × Nat} (M : Mem w0 X L w)
    (hinfo : (P.info? e).map (fun i => (i.zero, i.size, i.bytes)) = some (some z, s, by1)) (hu : P.underlying t = some (.slice e)) (hzs : z.cells.size = s) (h0 : 0 < s) (hby : by1 ≤ 100000)
    (hs1 : a.eval s1 = .slice (some ⟨g, 0, none⟩) n c) (hs2 : a.eval s2 = .slice (some ⟨bn, so, none⟩) m cap) (hg : w.heap[g]? = some (.cells cur tg fg)) (hxl : xs.length = n * s) (hxs : ∀ (j : Nat) (u : Value), xs[j]? = some u → cur[j]? = some u)
    (hn : n + m ≤ 1000000) (hcap : c < n + m) (hr : w.heap[bn]? = some (.cells cs tn fr)) (hl : news.length = m * s) (hc : ∀ (j : Nat) (u : Value), news[j]? = some u → cs[so + j]? = some u)
    (k : ∀ v' w', Mem w0 X L w' → w'.ownsRow w.heap.size e s v' (n + m) (xs ++ news) → Kept [] w w' → wpList P ops Q rest (a.put (some d) v') w') :
    wpList P ops Q ({ dst := some d, op := .call { callee := .builtin .append, args := #[s1, s2], argTypes := #[t, t] }, type := ty, pos := pos, after := after, guard := none } :: rest) a w := by
  obtain ⟨v', w', h2, h3, h4⟩ := run_appendG (P := P) (a := a) (d := some d) (ty := ty) (pos := pos) (after := after) (gg := none) hinfo hu hzs h0 hby hs1 hs2 hg hxl hxs hn hcap hr hl hc
  exact L_run rfl h2 (k v' w' (M.call h4) h3 h4)
theorem W_copyAt {d : Tmp} {x y : Operand} {tx ty e ty' : TypeId} {b o dLen dCap b' so sLen sCap : Nat} {t t' : TypeId} {fr : Nat × Nat} {cur cs : Array Value} {news : List Value} {pos : String} {after : Array Edge}
    (hx : a.eval x = .slice (some ⟨b, o, none⟩) dLen dCap) (hy : a.eval y = .slice (some ⟨b', so, none⟩) sLen sCap) (hu : P.underlying tx = some (.slice e)) (hs : (P.info? e).map (·.size) = some 1)
    (hr : w.heap[b]? = some (.cells cur t (0, 0))) (hr' : w.heap[b']? = some (.cells cs t' fr)) (hn : news.length = min sLen dLen) (hsrc : ∀ (j : Nat) (v : Value), news[j]? = some v → cs[so + j]? = some v) (hfit : o + news.length ≤ cur.size) (h1 : ∀ v ∈ news, v.oneCell' = true)
    (k : ∀ w', Kept [b] w w' → w'.heap[b]? = some (.cells (cur.toList.take o ++ news ++ cur.toList.drop (o + news.length)).toArray t (0, 0)) → wpList P ops Q rest (a.put (some d) (.int .i64 news.length)) w') :
    wpList P ops Q ({ dst := some d, op := .call { callee := .builtin .copy, args := #[x, y], argTypes := #[tx, ty] }, type := ty', pos := pos, after := after, guard := none } :: rest) a w := by
  obtain ⟨w', h2, h3, h4⟩ := run_copyAt (P := P) (a := a) (d := some d) (ty' := ty') (ty := ty) (pos := pos) (after := after) (g := none) hx hy hu hs hr hr' hn hsrc hfit h1
  exact L_run rfl h2 (k w' h3 h4)
end
section
variable {P : Program} {w0 : World} {X : List Nat} {L : List (Nat × Obj)} {C : World → World → Prop} {A : Array Oper} {F : Act → World → Prop} {a : Act} {w : World} {rest : List Oper}
/-- []T{x} in a stage where nothing floats. -/
theorem E_buildIt {d : Tmp} {t e ty : TypeId} {pos : String} {after : Array Edge} {x : Operand} {u : Value} {vs : Array Value} {s : Nat} (hx : a.eval x = u) (hc : u.cells = vs) (hu : P.underlying t = some (.slice e)) (hsz : (P.info? e).map (·.size) = some s) (hz : ((P.info? e).bind (·.zero)).isSome = true)
    (hs : vs.size = s) (h0 : 0 < s) (h24 : s ≤ 16777216)
    (k : ∀ b w1 w', Kept [] w w1 → w0.heap.size ≤ b → w1.heap.size ≤ b → Kept [] w1 w' → Mem w0 X ((b, .cells vs e (0, 0)) :: L) w' → EV P w0 X L (fun _ _ => True) A F rest (a.put (some d) (.slice (some ⟨b, 0, none⟩) 1 1)) w') :
    EV P w0 X L (fun _ _ => True) A F ({ dst := some d, op := .buildSlice t 1 #[(0, x)], type := ty, pos := pos, after := after, guard := none } :: rest) a w := by
  refine E_eff (by simp [Region.wanted]) rfl fun w1 K M => ?_
  have ⟨h1, h2⟩ := M.alloc (.cells vs e (0, 0))
  exact ⟨_, _, run_buildIt hx hc hu hsz hz hs h0 h24, trivial, h2.tail, k _ w1 _ K h1 (Nat.le_refl _) ((Mem.start w1 []).alloc (.cells vs e (0, 0))).2.kept h2⟩
theorem E_appendIt {d : Tmp} {s1 s2 : Operand} {t e ty : TypeId} {pos : String} {after : Array Edge} {base n m s by1 bn so cap : Nat} {z v : Value} {xs news : List Value} {cs : Array Value} {tn : TypeId} {fr : Nat × Nat}
    (hinfo : (P.info? e).map (fun i => (i.zero, i.size, i.bytes)) = some (some z, s, by1)) (hu : P.underlying t = some (.slice e)) (hzs : z.cells.size = s) (h0 : 0 < s) (hby : by1 ≤ 100000)
    (hs1 : a.eval s1 = v) (hs2 : a.eval s2 = .slice (some ⟨bn, so, none⟩) m cap) (hown : w.ownsRow base e s v n xs) (hn : n + m ≤ 1000000) (hr : w.heap[bn]? = some (.cells cs tn fr)) (hl : news.length = m * s) (hc : ∀ (j : Nat) (u : Value), news[j]? = some u → cs[so + j]? = some u) (h1 : ∀ u ∈ news, u.oneCell' = true)
    (hb : w0.heap.size ≤ base) (hbw : base ≤ w.heap.size) (hL : ∀ p ∈ L, v.ownBlock ≠ some p.1)
    (k : ∀ v' w1 w', Kept [] w w1 → Mem w0 X L w' → w'.ownsRow base e s v' (n + m) (xs ++ news) → base ≤ w'.heap.size → Kept v.ownBlock.toList w1 w' → EV P w0 X L (fun _ _ => True) A F rest (a.put (some d) v') w') :
    EV P w0 X L (fun _ _ => True) A F ({ dst := some d, op := .call { callee := .builtin .append, args := #[s1, s2], argTypes := #[t, t] }, type := ty, pos := pos, after := after, guard := none } :: rest) a w := by
  refine E_eff (by simp [Region.wanted]) rfl fun w1 K M => ?_
  obtain ⟨v', w', h2, h3, h4⟩ := run_appendIt (P := P) (a := a) (w := w1) (d := some d) (ty := ty) (pos := pos) (after := after) (gg := none) hinfo hu hzs h0 hby hs1 hs2 (own_kept hown K) hn (K.row hr (by simp)) hl hc h1 (Nat.le_trans hbw K.size)
  have hM := M.own h4 (fun q hq => Nat.le_trans hb (own_block hown hq).1) hL
  exact ⟨v', w', h2, trivial, hM, k v' w1 w' K hM h3 (Nat.le_trans hbw (Nat.le_trans K.size h4.size)) h4⟩
theorem E_appendG {d : Tmp} {s1 s2 : Operand} {t e ty : TypeId} {pos : String} {after : Array Edge} {g n c m s by1 bn so cap : Nat} {z : Value} {xs news : List Value} {cur cs : Array Value} {tg tn : TypeId} {fr fg : Nat × Nat}
    (hinfo : (P.info? e).map (fun i => (i.zero, i.size, i.bytes)) = some (some z, s, by1)) (hu : P.underlying t = some (.slice e)) (hzs : z.cells.size = s) (h0 : 0 < s) (hby : by1 ≤ 100000)
    (hs1 : a.eval s1 = .slice (some ⟨g, 0, none⟩) n c) (hs2 : a.eval s2 = .slice (some ⟨bn, so, none⟩) m cap) (hg : w.heap[g]? = some (.cells cur tg fg)) (hxl : xs.length = n * s) (hxs : ∀ (j : Nat) (u : Value), xs[j]? = some u → cur[j]? = some u)
    (hn : n + m ≤ 1000000) (hcap : c < n + m) (hr : w.heap[bn]? = some (.cells cs tn fr)) (hl : news.length = m * s) (hc : ∀ (j : Nat) (u : Value), news[j]? = some u → cs[so + j]? = some u)
    (k : ∀ v' w1 w', Kept [] w w1 → Mem w0 X L w' → w'.ownsRow w1.heap.size e s v' (n + m) (xs ++ news) → Kept [] w1 w' → EV P w0 X L (fun _ _ => True) A F rest (a.put (some d) v') w') :
    EV P w0 X L (fun _ _ => True) A F ({ dst := some d, op := .call { callee := .builtin .append, args := #[s1, s2], argTypes := #[t, t] }, type := ty, pos := pos, after := after, guard := none } :: rest) a w := by
  refine E_eff (by simp [Region.wanted]) rfl fun w1 K M => ?_
  obtain ⟨v', w', h2, h3, h4⟩ := run_appendG (P := P) (a := a) (w := w1) (d := some d) (ty := ty) (pos := pos) (after := after) (gg := none) hinfo hu hzs h0 hby hs1 hs2 (K.row hg (by simp)) hxl hxs hn hcap (K.row hr (by simp)) hl hc
  exact ⟨v', w', h2, trivial, M.call h4, k v' w1 w' K (M.call h4) h3 h4⟩
end
end Go.Own

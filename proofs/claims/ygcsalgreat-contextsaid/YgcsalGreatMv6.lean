/-
  A slice literal of one struct; append to a slice of one's own.
-/
import Derived.Test.YgcsalGreatMv5
set_option linter.unusedSimpArgs false
set_option linter.unusedVariables false
namespace Go.Own
section
variable {P : Program} {ops : Array Oper} {Q : Exit → Act → World → Prop} {rest : List Oper} {a : Act} {w w0 : World} {X : List Nat} {L : List (Nat × Obj)}
/-- The literal []T{x}. -/
theorem W_buildOne {d : Tmp} {t e ty : TypeId} {pos : String} {after : Array Edge} {x : Operand} {vs : Array Value} {s : Nat} (M : Mem w0 X L w) (hx : a.eval x = .agg vs) (hu : P.underlying t = some (.slice e)) (hsz : (P.info? e).map (·.size) = some s) (hz : ((P.info? e).bind (·.zero)).isSome = true)
    (hs : vs.size = s) (h0 : 0 < s) (h24 : s ≤ 16777216)
    (k : ∀ b w', w0.heap.size ≤ b → w.heap.size ≤ b → Kept [] w w' → Mem w0 X ((b, .cells vs e (0, 0)) :: L) w' → wpList P ops Q rest (a.put (some d) (.slice (some ⟨b, 0, none⟩) 1 1)) w') :
    wpList P ops Q ({ dst := some d, op := .buildSlice t 1 #[(0, x)], type := ty, pos := pos, after := after, guard := none } :: rest) a w := by
  have ⟨h1, h2⟩ := M.alloc (.cells vs e (0, 0))
  cases hie : P.info? e with
  | none => simp [hie] at hsz
  | some ie =>
    simp only [hie, Option.map_some, Option.some.injEq, Option.bind_some] at hsz hz
    obtain ⟨z, hzz⟩ := Option.isSome_iff_exists.1 hz
    refine wpList_buildSlice rfl t e 1 _ rfl vs ie z hu hie hzz (by rw [hsz]; omega) (by rw [hsz]; omega) ?_ (k _ _ h1 (Nat.le_refl _) ((Mem.start w []).alloc (.cells vs e (0, 0))).2.kept h2)
    rw [hsz]
    obtain ⟨r, hr, hrs, hk⟩ := Great.fill_dense (s := s) h0 [.agg vs] 0 ((Array.range (1 * s)).map (z.cells[· % z.cells.size]!)) (fun v hv => by simp at hv; subst hv; simpa [Value.cells] using hs) (by simp)
    have he : r = vs := by
      apply Array.ext_getElem?
      intro j
      rw [hk j]
      by_cases hj : j < s
      · rw [if_pos (by simpa using hj), Nat.div_eq_of_lt hj, Nat.mod_eq_of_lt hj]
        simp [Value.cells]
      · rw [if_neg (by simpa using hj), Array.getElem?_eq_none (by simp; omega), Array.getElem?_eq_none (by omega)]
    rw [he] at hr
    simpa [hx] using hr

theorem W_appendOne {d : Tmp} {s1 s2 : Operand} {t e ty : TypeId} {pos : String} {after : Array Edge} {base n s by1 bn cap : Nat} {z v : Value} {xs : List Value} {vs : Array Value} (M : Mem w0 X L w)
    (hinfo : (P.info? e).map (fun i => (i.zero, i.size, i.bytes)) = some (some z, s, by1)) (hu : P.underlying t = some (.slice e)) (hzs : z.cells.size = s) (h0 : 0 < s) (hby : by1 ≤ 100000)
    (hs1 : a.eval s1 = v) (hs2 : a.eval s2 = .slice (some ⟨bn, 0, none⟩) 1 cap) (hown : w.ownsRow base e s v n xs) (hn : n ≤ 1000000) (hr : w.heap[bn]? = some (.cells vs e (0, 0))) (hvs : vs.size = s) (h1 : ∀ u ∈ vs.toList, u.oneCell' = true)
    (hb : w0.heap.size ≤ base) (hbw : base ≤ w.heap.size) (hL : ∀ p ∈ L, v.ownBlock ≠ some p.1)
    (k : ∀ v' w', Mem w0 X L w' → w'.ownsRow base e s v' (n + 1) (xs ++ vs.toList) → base ≤ w'.heap.size → wpList P ops Q rest (a.put (some d) v') w') :
    wpList P ops Q ({ dst := some d, op := .call { callee := .builtin .append, args := #[s1, s2], argTypes := #[t, t] }, type := ty, pos := pos, after := after, guard := none } :: rest) a w := by
  cases hie : P.info? e with
  | none => simp [hie] at hinfo
  | some ie =>
    simp only [hie, Option.map_some, Option.some.injEq, Prod.mk.injEq] at hinfo
    obtain ⟨i1, i2, i3⟩ := hinfo
    refine wpList_append_own w rfl s1 s2 t rfl base e ie z s by1 hu hie i1 i2 i3 hzs h0 v n xs hs1 hown ⟨bn, 0, none⟩ 1 cap vs.toList hs2 (by simp [hvs]) ?_ h1 (by simp only [maxLen]; omega) ?_ hbw ?_
    · intro j u hj
      have hadd : (Addr.add ⟨bn, 0, none⟩ j) = ⟨bn, j, none⟩ := by cases j <;> simp [Addr.add]
      rw [hadd]
      simp only [World.cell?, hr]
      simpa using hj
    · have : (n + 1) * by1 ≤ 1000001 * 100000 := Nat.mul_le_mul (by omega) hby
      omega
    · intro v' w' ho hg _
      have hblk : ∀ q, v.ownBlock = some q → base ≤ q := by
        intro q hq
        rcases hown.2 with ⟨rfl, _⟩ | ⟨g, c, cur, rfl, hbg, _⟩
        · simp [Value.ownBlock] at hq
        · simp [Value.ownBlock] at hq; omega
      refine k v' w' ⟨⟨by rw [hg.os, M.kept.os], by rw [hg.tape, M.kept.tape], by rw [hg.output, M.kept.output], Nat.le_trans M.kept.size hg.size, fun q hq hx => ?_⟩, fun p hp => ?_, M.apart⟩ ho (Nat.le_trans hbw hg.size)
      · have h1 := M.kept.size
        rw [hg.block q (by omega) (fun e => by have := hblk q e.symm; omega)]
        exact M.kept.block q hq hx
      · have hlt := M.lt hp
        rw [hg.block p.1 hlt (fun e => hL p hp e.symm)]
        exact M.rows p hp
end
theorem own_block {w : World} {base : Nat} {e : TypeId} {s n : Nat} {v : Value} {xs : List Value} (h : w.ownsRow base e s v n xs) {g : Nat} (hg : v.ownBlock = some g) : base ≤ g ∧ g < w.heap.size := by
  rcases h.2 with ⟨rfl, _⟩ | ⟨g', c, cur, rfl, h2, h3, _⟩
  · simp [Value.ownBlock] at hg
  · simp [Value.ownBlock] at hg
    subst hg
    exact ⟨h2, lt_of_row h3⟩
section
variable {P : Program} {ops : Array Oper} {Q : Exit → Act → World → Prop} {rest : List Oper} {a : Act} {w w0 : World} {X : List Nat} {L : List (Nat × Obj)}
/-- A new variable; its block is newer than all that stood. -/
theorem L_allocN {d : Tmp} {t ty : TypeId} {pos : String} {after : Array Edge} {cs : Array Value} (M : Mem w0 X L w) (hz : ((P.info? t).bind (·.zero)) = some (.agg cs))
    (k : ∀ b w', w0.heap.size ≤ b → w.heap.size ≤ b → Kept [] w w' → Mem w0 X ((b, .cells cs t (0, 0)) :: L) w' → wpList P ops Q rest (a.put (some d) (.pointer (some ⟨b, 0, none⟩))) w') :
    wpList P ops Q ({ dst := some d, op := .alloc t, type := ty, pos := pos, after := after, guard := none } :: rest) a w := by
  have ⟨h1, h2⟩ := M.alloc (.cells cs t (0, 0))
  refine L_run rfl ?_ (k _ _ h1 (Nat.le_refl _) ((Mem.start w []).alloc (.cells cs t (0, 0))).2.kept h2)
  cases hq : P.info? t with
  | none => simp [hq] at hz
  | some inf =>
    have hz' : inf.zero = some (.agg cs) := by simpa [hq] using hz
    simp [execOp, Instr.alloc, zeroValue, typeInfo, hq, hz', newVar, newRow, newObj, Sem.run, Value.cells]
end
theorem own_nil (w : World) (base : Nat) (e : TypeId) (s : Nat) : w.ownsRow base e s (.slice none 0 0) 0 [] := ⟨by simp, .inl ⟨rfl, rfl⟩⟩
theorem own_kept {w w' : World} {base : Nat} {e : TypeId} {s n : Nat} {v : Value} {xs : List Value} (h : w.ownsRow base e s v n xs) (k : Kept [] w w') : w'.ownsRow base e s v n xs := by
  refine ⟨h.1, ?_⟩
  rcases h.2 with h1 | ⟨g, cap, cur, h1, h2, h3, h4⟩
  · exact .inl h1
  · exact .inr ⟨g, cap, cur, h1, h2, k.row h3 (by simp), h4⟩
theorem own_mono {w : World} {base base' : Nat} {e : TypeId} {s n : Nat} {v : Value} {xs : List Value} (h : w.ownsRow base e s v n xs) (hb : base' ≤ base) : w.ownsRow base' e s v n xs := by
  refine ⟨h.1, ?_⟩
  rcases h.2 with h1 | ⟨g, cap, cur, h1, h2, h3⟩
  · exact .inl h1
  · exact .inr ⟨g, cap, cur, h1, by omega, h3⟩
end Go.Own
namespace Go.Proofs.YgcsalGreat
open Go.RowKit Go.Own
theorem info128 : (Salg.prog.info? 128).map (fun i => (i.zero, i.size, i.bytes)) = some (some (.agg (z8 20 ++ [nilS, nilS, nilS, nilS]).toArray), 24, 120) := by kernel_rfl
theorem info45 : (Salg.prog.info? 45).map (fun i => (i.zero, i.size, i.bytes)) = some (some (A8 (List.replicate 20 0)), 20, 20) := by kernel_rfl
end Go.Proofs.YgcsalGreat

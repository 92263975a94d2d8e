/-
  The walk of law.contextHolds.
-/
import Derived.Test.YgcsalGreatCx39
import Derived.Test.YgcsalGreatCx33
set_option linter.unusedSimpArgs false
set_option linter.unusedVariables false
namespace Go.Own
open Go.Proofs Go.Proofs.YgcsalGreat
section
variable {P : Program} {ops : Array Oper} {Q : Exit → Act → World → Prop} {rest : List Oper} {a : Act} {w : World}
theorem W_loadXG {b o n : Nat} {cs vs : Array Value} {t : TypeId} {fr : Nat × Nat} {dst : Tmp} {x : Operand} {ty ty' : TypeId} {pos : String} {after : Array Edge} {g : Option (Nat × Bool)} {d : TypeDesc}
    (hw : Region.wanted { dst := some dst, op := .load ty x, type := ty', pos := pos, after := after, guard := g } (yielded ops a.tmps) = true)
    (hx : a.eval x = .pointer (some ⟨b, o, none⟩)) (h : w.heap[b]? = some (.cells cs t fr)) (hu : P.underlying ty = some d) (hd : d.isRow = true) (hi : (P.info? ty).map (·.size) = some n) (hle : o + n ≤ cs.size) (hex : cs.extract o (o + n) = vs)
    (k : wpList P ops Q rest (a.put (some dst) (.agg vs)) w) :
    wpList P ops Q ({ dst := some dst, op := .load ty x, type := ty', pos := pos, after := after, guard := g } :: rest) a w := L_runG hw (run_loadX h hx hu hd hi hle hex) k
theorem W_neq8G {dst : Tmp} {x y : Operand} {t elem ty ty' : TypeId} {len : Nat} {pos : String} {after : Array Edge} {g : Option (Nat × Bool)} {l : List Nat}
    (hw : Region.wanted { dst := some dst, op := .binOp .neq t x y ty, type := ty', pos := pos, after := after, guard := g } (yielded ops a.tmps) = true)
    (hx : a.eval x = A8 l) (hy : a.eval y = A8 l) (hu : P.underlying t = some (.array len elem)) (he : P.underlying elem = some (.int .u8)) (hs : (P.info? elem).map (·.size) = some 1)
    (hg : P.eqGuardType P.depth t = false) (hl : l.length = len) (k : wpList P ops Q rest (a.put (some dst) (.bool false)) w) :
    wpList P ops Q ({ dst := some dst, op := .binOp .neq t x y ty, type := ty', pos := pos, after := after, guard := g } :: rest) a w := by
  refine L_runG hw (run_neq8 hx hy hu he hs hg hl hl) ?_
  simpa using k
theorem W_eql8G {dst : Tmp} {x y : Operand} {t elem ty ty' : TypeId} {len : Nat} {pos : String} {after : Array Edge} {g : Option (Nat × Bool)} {l : List Nat}
    (hw : Region.wanted { dst := some dst, op := .binOp .eql t x y ty, type := ty', pos := pos, after := after, guard := g } (yielded ops a.tmps) = true)
    (hx : a.eval x = A8 l) (hy : a.eval y = A8 l) (hu : P.underlying t = some (.array len elem)) (he : P.underlying elem = some (.int .u8)) (hs : (P.info? elem).map (·.size) = some 1)
    (hg : P.eqGuardType P.depth t = false) (hl : l.length = len) (k : wpList P ops Q rest (a.put (some dst) (.bool true)) w) :
    wpList P ops Q ({ dst := some dst, op := .binOp .eql t x y ty, type := ty', pos := pos, after := after, guard := g } :: rest) a w := by
  refine L_runG hw (run_eql8 hx hy hu he hs hg hl hl) ?_
  simpa using k
theorem W_buildG {d : Tmp} {t ty : TypeId} {fs : Array (Nat × Operand)} {pos : String} {after : Array Edge} {g : Option (Nat × Bool)} {v : Value}
    (hw : Region.wanted { dst := some d, op := .build t fs, type := ty, pos := pos, after := after, guard := g } (yielded ops a.tmps) = true)
    (hr : (execOp a.eval { dst := some d, op := .build t fs, type := ty, pos := pos, after := after, guard := g }).run P w = .ok (.value v) w) (k : wpList P ops Q rest (a.put (some d) v) w) :
    wpList P ops Q ({ dst := some d, op := .build t fs, type := ty, pos := pos, after := after, guard := g } :: rest) a w := L_runG hw hr k
end
abbrev rowA (cs : Value) (t : Nat) (crt : Bool) (v : Nat) (dv : Value) (sf cl : List Nat) (vl dp : Nat) (st : Bool) : Array Value := (rwL cs t crt v dv sf cl vl dp st).toArray
theorem rw_215 (cs : Value) (t : Nat) (crt : Bool) (v : Nat) (dv : Value) {sf cl : List Nat} (vl dp : Nat) (st : Bool) (h1 : sf.length = 20) (h2 : cl.length = 20) : (rwL cs t crt v dv sf cl vl dp st).toArray[215]? = some (n8 vl) := by
  obtain ⟨b0, b1, b2, b3, b4, b5, b6, b7, b8, b9, b10, b11, b12, b13, b14, b15, b16, b17, b18, b19, rfl⟩ := list20 h1
  obtain ⟨d0, d1, d2, d3, d4, d5, d6, d7, d8, d9, d10, d11, d12, d13, d14, d15, d16, d17, d18, d19, rfl⟩ := list20 h2
  kernel_rfl
theorem rw_216 (cs : Value) (t : Nat) (crt : Bool) (v : Nat) (dv : Value) {sf cl : List Nat} (vl dp : Nat) (st : Bool) (h1 : sf.length = 20) (h2 : cl.length = 20) : (rwL cs t crt v dv sf cl vl dp st).toArray[216]? = some (n8 dp) := by
  obtain ⟨b0, b1, b2, b3, b4, b5, b6, b7, b8, b9, b10, b11, b12, b13, b14, b15, b16, b17, b18, b19, rfl⟩ := list20 h1
  obtain ⟨d0, d1, d2, d3, d4, d5, d6, d7, d8, d9, d10, d11, d12, d13, d14, d15, d16, d17, d18, d19, rfl⟩ := list20 h2
  kernel_rfl
theorem rw_217 (cs : Value) (t : Nat) (crt : Bool) (v : Nat) (dv : Value) {sf cl : List Nat} (vl dp : Nat) (st : Bool) (h1 : sf.length = 20) (h2 : cl.length = 20) : (rwL cs t crt v dv sf cl vl dp st).toArray[217]? = some (.bool st) := by
  obtain ⟨b0, b1, b2, b3, b4, b5, b6, b7, b8, b9, b10, b11, b12, b13, b14, b15, b16, b17, b18, b19, rfl⟩ := list20 h1
  obtain ⟨d0, d1, d2, d3, d4, d5, d6, d7, d8, d9, d10, d11, d12, d13, d14, d15, d16, d17, d18, d19, rfl⟩ := list20 h2
  kernel_rfl
theorem rw_sf (cs : Value) (t : Nat) (crt : Bool) (v : Nat) (dv : Value) {sf cl : List Nat} (vl dp : Nat) (st : Bool) (h1 : sf.length = 20) (h2 : cl.length = 20) : (rwL cs t crt v dv sf cl vl dp st).toArray.extract 175 (175 + 20) = (sf.map n8).toArray := by
  obtain ⟨b0, b1, b2, b3, b4, b5, b6, b7, b8, b9, b10, b11, b12, b13, b14, b15, b16, b17, b18, b19, rfl⟩ := list20 h1
  obtain ⟨d0, d1, d2, d3, d4, d5, d6, d7, d8, d9, d10, d11, d12, d13, d14, d15, d16, d17, d18, d19, rfl⟩ := list20 h2
  kernel_rfl
theorem rw_cl (cs : Value) (t : Nat) (crt : Bool) (v : Nat) (dv : Value) {sf cl : List Nat} (vl dp : Nat) (st : Bool) (h1 : sf.length = 20) (h2 : cl.length = 20) : (rwL cs t crt v dv sf cl vl dp st).toArray.extract 195 (195 + 20) = (cl.map n8).toArray := by
  obtain ⟨b0, b1, b2, b3, b4, b5, b6, b7, b8, b9, b10, b11, b12, b13, b14, b15, b16, b17, b18, b19, rfl⟩ := list20 h1
  obtain ⟨d0, d1, d2, d3, d4, d5, d6, d7, d8, d9, d10, d11, d12, d13, d14, d15, d16, d17, d18, d19, rfl⟩ := list20 h2
  kernel_rfl
theorem rw_size (cs : Value) (t : Nat) (crt : Bool) (v : Nat) (dv : Value) {sf cl : List Nat} (vl dp : Nat) (st : Bool) (h1 : sf.length = 20) (h2 : cl.length = 20) : (rwL cs t crt v dv sf cl vl dp st).toArray.size = 218 := by
  obtain ⟨b0, b1, b2, b3, b4, b5, b6, b7, b8, b9, b10, b11, b12, b13, b14, b15, b16, b17, b18, b19, rfl⟩ := list20 h1
  obtain ⟨d0, d1, d2, d3, d4, d5, d6, d7, d8, d9, d10, d11, d12, d13, d14, d15, d16, d17, d18, d19, rfl⟩ := list20 h2
  kernel_rfl
theorem vq_0 (sb : Bool) (d m G : Nat) {sf cl : List Nat} (sv mv rv : Value) (h1 : sf.length = 20) (h2 : cl.length = 20) : (vwG sb d m G sf cl sv mv rv).toArray[0]? = some (.bool false) := by
  obtain ⟨b0, b1, b2, b3, b4, b5, b6, b7, b8, b9, b10, b11, b12, b13, b14, b15, b16, b17, b18, b19, rfl⟩ := list20 h1
  obtain ⟨d0, d1, d2, d3, d4, d5, d6, d7, d8, d9, d10, d11, d12, d13, d14, d15, d16, d17, d18, d19, rfl⟩ := list20 h2
  kernel_rfl
theorem vq_1 (sb : Bool) (d m G : Nat) {sf cl : List Nat} (sv mv rv : Value) (h1 : sf.length = 20) (h2 : cl.length = 20) : (vwG sb d m G sf cl sv mv rv).toArray[1]? = some (.bool sb) := by
  obtain ⟨b0, b1, b2, b3, b4, b5, b6, b7, b8, b9, b10, b11, b12, b13, b14, b15, b16, b17, b18, b19, rfl⟩ := list20 h1
  obtain ⟨d0, d1, d2, d3, d4, d5, d6, d7, d8, d9, d10, d11, d12, d13, d14, d15, d16, d17, d18, d19, rfl⟩ := list20 h2
  kernel_rfl
theorem vq_2 (sb : Bool) (d m G : Nat) {sf cl : List Nat} (sv mv rv : Value) (h1 : sf.length = 20) (h2 : cl.length = 20) : (vwG sb d m G sf cl sv mv rv).toArray[2]? = some (.int .u8 (d : Int)) := by
  obtain ⟨b0, b1, b2, b3, b4, b5, b6, b7, b8, b9, b10, b11, b12, b13, b14, b15, b16, b17, b18, b19, rfl⟩ := list20 h1
  obtain ⟨d0, d1, d2, d3, d4, d5, d6, d7, d8, d9, d10, d11, d12, d13, d14, d15, d16, d17, d18, d19, rfl⟩ := list20 h2
  kernel_rfl
theorem vq_3 (sb : Bool) (d m G : Nat) {sf cl : List Nat} (sv mv rv : Value) (h1 : sf.length = 20) (h2 : cl.length = 20) : (vwG sb d m G sf cl sv mv rv).toArray[3]? = some (.int .u16 (m : Int)) := by
  obtain ⟨b0, b1, b2, b3, b4, b5, b6, b7, b8, b9, b10, b11, b12, b13, b14, b15, b16, b17, b18, b19, rfl⟩ := list20 h1
  obtain ⟨d0, d1, d2, d3, d4, d5, d6, d7, d8, d9, d10, d11, d12, d13, d14, d15, d16, d17, d18, d19, rfl⟩ := list20 h2
  kernel_rfl
theorem vq_sf (sb : Bool) (d m G : Nat) {sf cl : List Nat} (sv mv rv : Value) (h1 : sf.length = 20) (h2 : cl.length = 20) : (vwG sb d m G sf cl sv mv rv).toArray.extract 6 (6 + 20) = (sf.map n8).toArray := by
  obtain ⟨b0, b1, b2, b3, b4, b5, b6, b7, b8, b9, b10, b11, b12, b13, b14, b15, b16, b17, b18, b19, rfl⟩ := list20 h1
  obtain ⟨d0, d1, d2, d3, d4, d5, d6, d7, d8, d9, d10, d11, d12, d13, d14, d15, d16, d17, d18, d19, rfl⟩ := list20 h2
  kernel_rfl
theorem vq_cl (sb : Bool) (d m G : Nat) {sf cl : List Nat} (sv mv rv : Value) (h1 : sf.length = 20) (h2 : cl.length = 20) : (vwG sb d m G sf cl sv mv rv).toArray.extract 26 (26 + 20) = (cl.map n8).toArray := by
  obtain ⟨b0, b1, b2, b3, b4, b5, b6, b7, b8, b9, b10, b11, b12, b13, b14, b15, b16, b17, b18, b19, rfl⟩ := list20 h1
  obtain ⟨d0, d1, d2, d3, d4, d5, d6, d7, d8, d9, d10, d11, d12, d13, d14, d15, d16, d17, d18, d19, rfl⟩ := list20 h2
  kernel_rfl
theorem vq_size (sb : Bool) (d m G : Nat) {sf cl : List Nat} (sv mv rv : Value) (h1 : sf.length = 20) (h2 : cl.length = 20) : (vwG sb d m G sf cl sv mv rv).toArray.size = 50 := by
  obtain ⟨b0, b1, b2, b3, b4, b5, b6, b7, b8, b9, b10, b11, b12, b13, b14, b15, b16, b17, b18, b19, rfl⟩ := list20 h1
  obtain ⟨d0, d1, d2, d3, d4, d5, d6, d7, d8, d9, d10, d11, d12, d13, d14, d15, d16, d17, d18, d19, rfl⟩ := list20 h2
  kernel_rfl
theorem buf_1 {sf cl : List Nat} (vl : Nat) (h1 : sf.length = 20) (h2 : cl.length = 20) : (((List.replicate 128 0).map n8).toArray.toList.take 12 ++ sf.map n8 ++ ((List.replicate 128 0).map n8).toArray.toList.drop (12 + (sf.map n8).length)).toArray = ((List.replicate 12 0 ++ (sf ++ List.replicate 96 0)).map n8).toArray := by
  obtain ⟨b0, b1, b2, b3, b4, b5, b6, b7, b8, b9, b10, b11, b12, b13, b14, b15, b16, b17, b18, b19, rfl⟩ := list20 h1
  obtain ⟨d0, d1, d2, d3, d4, d5, d6, d7, d8, d9, d10, d11, d12, d13, d14, d15, d16, d17, d18, d19, rfl⟩ := list20 h2
  kernel_rfl
theorem buf_2 {sf cl : List Nat} (vl : Nat) (h1 : sf.length = 20) (h2 : cl.length = 20) : (((List.replicate 12 0 ++ (sf ++ List.replicate 96 0)).map n8).toArray.toList.take 44 ++ cl.map n8 ++ ((List.replicate 12 0 ++ (sf ++ List.replicate 96 0)).map n8).toArray.toList.drop (44 + (cl.map n8).length)).toArray = ((List.replicate 12 0 ++ (sf ++ (List.replicate 12 0 ++ (cl ++ List.replicate 64 0)))).map n8).toArray := by
  obtain ⟨b0, b1, b2, b3, b4, b5, b6, b7, b8, b9, b10, b11, b12, b13, b14, b15, b16, b17, b18, b19, rfl⟩ := list20 h1
  obtain ⟨d0, d1, d2, d3, d4, d5, d6, d7, d8, d9, d10, d11, d12, d13, d14, d15, d16, d17, d18, d19, rfl⟩ := list20 h2
  kernel_rfl
theorem buf_3 {sf cl : List Nat} (vl : Nat) (h1 : sf.length = 20) (h2 : cl.length = 20) : ((List.replicate 12 0 ++ (sf ++ (List.replicate 12 0 ++ (cl ++ List.replicate 64 0)))).map n8).toArray.setIfInBounds 95 (n8 vl) = ((List.replicate 12 0 ++ (sf ++ (List.replicate 12 0 ++ (cl ++ (List.replicate 31 0 ++ (vl :: List.replicate 32 0)))))).map n8).toArray := by
  obtain ⟨b0, b1, b2, b3, b4, b5, b6, b7, b8, b9, b10, b11, b12, b13, b14, b15, b16, b17, b18, b19, rfl⟩ := list20 h1
  obtain ⟨d0, d1, d2, d3, d4, d5, d6, d7, d8, d9, d10, d11, d12, d13, d14, d15, d16, d17, d18, d19, rfl⟩ := list20 h2
  kernel_rfl
theorem buf_4 {sf cl : List Nat} (vl : Nat) (h1 : sf.length = 20) (h2 : cl.length = 20) : (((List.replicate 12 0 ++ (sf ++ (List.replicate 12 0 ++ (cl ++ (List.replicate 31 0 ++ (vl :: List.replicate 32 0)))))).map n8).toArray.toList.take 108 ++ (ad 240).map n8 ++ ((List.replicate 12 0 ++ (sf ++ (List.replicate 12 0 ++ (cl ++ (List.replicate 31 0 ++ (vl :: List.replicate 32 0)))))).map n8).toArray.toList.drop (108 + ((ad 240).map n8).length)).toArray = ((probeM sf cl vl).map n8).toArray := by
  obtain ⟨b0, b1, b2, b3, b4, b5, b6, b7, b8, b9, b10, b11, b12, b13, b14, b15, b16, b17, b18, b19, rfl⟩ := list20 h1
  obtain ⟨d0, d1, d2, d3, d4, d5, d6, d7, d8, d9, d10, d11, d12, d13, d14, d15, d16, d17, d18, d19, rfl⟩ := list20 h2
  kernel_rfl
theorem buf_s0 {sf cl : List Nat} (vl : Nat) (h1 : sf.length = 20) (h2 : cl.length = 20) : ((List.replicate 128 0).map n8).toArray.size = 128 := by
  obtain ⟨b0, b1, b2, b3, b4, b5, b6, b7, b8, b9, b10, b11, b12, b13, b14, b15, b16, b17, b18, b19, rfl⟩ := list20 h1
  obtain ⟨d0, d1, d2, d3, d4, d5, d6, d7, d8, d9, d10, d11, d12, d13, d14, d15, d16, d17, d18, d19, rfl⟩ := list20 h2
  kernel_rfl
theorem buf_s1 {sf cl : List Nat} (vl : Nat) (h1 : sf.length = 20) (h2 : cl.length = 20) : ((List.replicate 12 0 ++ (sf ++ List.replicate 96 0)).map n8).toArray.size = 128 := by
  obtain ⟨b0, b1, b2, b3, b4, b5, b6, b7, b8, b9, b10, b11, b12, b13, b14, b15, b16, b17, b18, b19, rfl⟩ := list20 h1
  obtain ⟨d0, d1, d2, d3, d4, d5, d6, d7, d8, d9, d10, d11, d12, d13, d14, d15, d16, d17, d18, d19, rfl⟩ := list20 h2
  kernel_rfl
theorem buf_s2 {sf cl : List Nat} (vl : Nat) (h1 : sf.length = 20) (h2 : cl.length = 20) : ((List.replicate 12 0 ++ (sf ++ (List.replicate 12 0 ++ (cl ++ List.replicate 64 0)))).map n8).toArray.size = 128 := by
  obtain ⟨b0, b1, b2, b3, b4, b5, b6, b7, b8, b9, b10, b11, b12, b13, b14, b15, b16, b17, b18, b19, rfl⟩ := list20 h1
  obtain ⟨d0, d1, d2, d3, d4, d5, d6, d7, d8, d9, d10, d11, d12, d13, d14, d15, d16, d17, d18, d19, rfl⟩ := list20 h2
  kernel_rfl
theorem buf_s3 {sf cl : List Nat} (vl : Nat) (h1 : sf.length = 20) (h2 : cl.length = 20) : ((List.replicate 12 0 ++ (sf ++ (List.replicate 12 0 ++ (cl ++ (List.replicate 31 0 ++ (vl :: List.replicate 32 0)))))).map n8).toArray.size = 128 := by
  obtain ⟨b0, b1, b2, b3, b4, b5, b6, b7, b8, b9, b10, b11, b12, b13, b14, b15, b16, b17, b18, b19, rfl⟩ := list20 h1
  obtain ⟨d0, d1, d2, d3, d4, d5, d6, d7, d8, d9, d10, d11, d12, d13, d14, d15, d16, d17, d18, d19, rfl⟩ := list20 h2
  kernel_rfl
theorem ext_at {cs : Array Value} {o n : Nat} {l : List Nat} (hs : o + n ≤ cs.size) (hl : l.length = n) (h : cs.extract o (o + n) = (l.map n8).toArray) : ∀ (j : Nat) (v : Value), (l.map n8)[j]? = some v → cs[o + j]? = some v := by
  intro j v hj
  have hj2 : j < n := by
    have := (List.getElem?_eq_some_iff.1 hj).1
    simpa [hl] using this
  have e : (cs.extract o (o + n))[j]? = some v := by rw [h, List.getElem?_toArray]; exact hj
  rw [Array.getElem?_extract, if_pos (by omega)] at e
  exact e
theorem small_probeM {sf cl : List Nat} {vl : Nat} (h1 : Small sf) (h2 : Small cl) (h3 : vl < 256) : Small (probeM sf cl vl) := by
  intro x hx
  simp only [probeM, padA, padN, List.mem_append, List.mem_cons, List.not_mem_nil, or_false] at hx
  have hz : ∀ n, x ∈ List.replicate n 0 → x < 256 := fun n h => by rw [List.eq_of_mem_replicate h]; decide
  rcases hx with ((((h | h) | (h | h)) | (h | rfl)) | (h | h))
  · exact hz _ h
  · exact h1 x h
  · exact hz _ h
  · exact h2 x h
  · exact hz _ h
  · exact h3
  · exact hz _ h
  · exact (ad_ok 240 (by decide)).hs x h
/-- A number's bytes where they lie. -/
theorem nat_at {w : World} {v : Value} {l : List Nat} (h : NatV w v l) (h0 : 0 < l.length) : ∃ b cp t cs, v = .slice (some ⟨b, 0, none⟩) l.length cp ∧ w.heap[b]? = some (.cells cs t (0, 0)) ∧ ∀ k x, l[k]? = some x → cs[0 + k]? = some (n8 x) := by
  obtain ⟨p, c, rfl, h1, h2, h3, h4⟩ := h
  obtain ⟨b, t, cs, rfl, h5, h6⟩ := h3.at h0
  refine ⟨b, c, t, _, rfl, h5, ?_⟩
  intro k x hk
  obtain ⟨hlt, e⟩ := List.getElem?_eq_some_iff.1 hk
  rw [Nat.zero_add, List.getElem?_toArray, List.getElem?_map, pre_get h6 hlt, e]
  rfl
theorem oaG_bal {a : List Nat} {N : Nat} {bal : List Nat} {code st : Value} (ha : a.length = 20) (h : bal.length = 32) : (oaG a N bal code st).toArray.extract 21 (21 + 32) = (bal.map n8).toArray := by
  refine extract_list (by simp [h]) (by simp [oaG, ha, h]) ?_
  intro k hk
  rw [List.getElem?_toArray, oaG, List.getElem?_append_right (by simp [ha]; omega), List.length_map, ha, show 21 + k - 20 = k + 1 by omega, List.singleton_append, List.getElem?_cons_succ, List.getElem?_append_left (by simp [h, hk])]
theorem at_map (l : List Nat) : ∀ k x, l[k]? = some x → (l.map n8).toArray[0 + k]? = some (n8 x) := by
  intro k x hk
  rw [Nat.zero_add, List.getElem?_toArray, List.getElem?_map, hk]
  rfl
end Go.Own
namespace Go.Proofs.YgcsalGreat
open Go.RowKit Go.Own

set_option maxHeartbeats 4000000 in
set_option maxRecDepth 100000 in
theorem holds_low (k : Nat) (cs dv : Value) (t : Nat) (crt : Bool) (v : Nat) (sf cl : List Nat) (vl dp : Nat) (st : Bool) (G : Nat) (sv mv rv u o : Value) (ma : List Nat) (ov : Value) (w : World) (hsf : sf.length = 20) (hcl : cl.length = 20) (ssf : Small sf) (scl : Small cl) (hvl : vl < 256) (hk : k < 6) (ho : NatV w o (probeM sf cl vl)) : Calls Salg.prog 29 #[n8 k, .agg (rwL cs t crt v dv sf cl vl dp st).toArray, .agg (vwG st dp 0 G sf cl sv mv rv).toArray, .agg (rcM u o ma).toArray, ov] w fun e w' => e = .returned (.bool true) ∧ Kept [] w w' := by
  have M := Mem.start w []
  have HS := hid hsf
  have HC := hid hcl
  have HSM := hid (small_probeM ssf scl hvl)
  have HR215 := hid (rw_215 cs t crt v dv (sf := sf) (cl := cl) vl dp st HS.out HC.out)
  have HR216 := hid (rw_216 cs t crt v dv (sf := sf) (cl := cl) vl dp st HS.out HC.out)
  have HR217 := hid (rw_217 cs t crt v dv (sf := sf) (cl := cl) vl dp st HS.out HC.out)
  have HRS := hid (rw_sf cs t crt v dv (sf := sf) (cl := cl) vl dp st HS.out HC.out)
  have HRC := hid (rw_cl cs t crt v dv (sf := sf) (cl := cl) vl dp st HS.out HC.out)
  have HRZ := hid (rw_size cs t crt v dv (sf := sf) (cl := cl) vl dp st HS.out HC.out)
  have HV0 := hid (vq_0 st dp 0 G (sf := sf) (cl := cl) sv mv rv HS.out HC.out)
  have HV1 := hid (vq_1 st dp 0 G (sf := sf) (cl := cl) sv mv rv HS.out HC.out)
  have HV2 := hid (vq_2 st dp 0 G (sf := sf) (cl := cl) sv mv rv HS.out HC.out)
  have HV3 := hid (vq_3 st dp 0 G (sf := sf) (cl := cl) sv mv rv HS.out HC.out)
  have HVS := hid (vq_sf st dp 0 G (sf := sf) (cl := cl) sv mv rv HS.out HC.out)
  have HVC := hid (vq_cl st dp 0 G (sf := sf) (cl := cl) sv mv rv HS.out HC.out)
  have HVZ := hid (vq_size st dp 0 G (sf := sf) (cl := cl) sv mv rv HS.out HC.out)
  have HRZ1 : Hid (175 + 20 ≤ (rwL cs t crt v dv sf cl vl dp st).toArray.size) := hid (by rw [HRZ.out]; decide)
  have HRZ2 : Hid (195 + 20 ≤ (rwL cs t crt v dv sf cl vl dp st).toArray.size) := hid (by rw [HRZ.out]; decide)
  have HVZ1 : Hid (6 + 20 ≤ (vwG st dp 0 G sf cl sv mv rv).toArray.size) := hid (by rw [HVZ.out]; decide)
  have HVZ2 : Hid (26 + 20 ≤ (vwG st dp 0 G sf cl sv mv rv).toArray.size) := hid (by rw [HVZ.out]; decide)
  have HX1 := hid (ext_at HRZ1.out HS.out HRS.out)
  have HX2 := hid (ext_at HRZ2.out HC.out HRC.out)
  have HX4 : Hid (∀ (j : Nat) (u : Value), ((ad 240).map n8)[j]? = some u → ((ad 240).map n8).toArray[0 + j]? = some u) := by
    intro j u hj
    rw [Nat.zero_add, List.getElem?_toArray]
    exact hj
  have HP1 := hid (buf_1 (sf := sf) (cl := cl) vl HS.out HC.out)
  have HP2 := hid (buf_2 (sf := sf) (cl := cl) vl HS.out HC.out)
  have HP3 := hid (buf_3 (sf := sf) (cl := cl) vl HS.out HC.out)
  have HP4 := hid (buf_4 (sf := sf) (cl := cl) vl HS.out HC.out)
  have HF1 : Hid (12 + (sf.map n8).length ≤ ((List.replicate 128 0).map n8).toArray.size) := hid (by rw [buf_s0 (sf := sf) (cl := cl) vl HS.out HC.out, List.length_map, HS.out]; decide)
  have HF2 : Hid (44 + (cl.map n8).length ≤ ((List.replicate 12 0 ++ (sf ++ List.replicate 96 0)).map n8).toArray.size) := hid (by rw [buf_s1 (sf := sf) (cl := cl) vl HS.out HC.out, List.length_map, HC.out]; decide)
  have HF3 : Hid (95 < ((List.replicate 12 0 ++ (sf ++ (List.replicate 12 0 ++ (cl ++ List.replicate 64 0)))).map n8).toArray.size) := hid (by rw [buf_s2 (sf := sf) (cl := cl) vl HS.out HC.out]; decide)
  have HF4 : Hid (108 + ((ad 240).map n8).length ≤ ((List.replicate 12 0 ++ (sf ++ (List.replicate 12 0 ++ (cl ++ (List.replicate 31 0 ++ (vl :: List.replicate 32 0)))))).map n8).toArray.size) := hid (by rw [buf_s3 (sf := sf) (cl := cl) vl HS.out HC.out]; decide)
  have HL1 : Hid ((sf.map n8).length = min 20 116) := hid (by rw [List.length_map, HS.out]; decide)
  have HL2 : Hid ((cl.map n8).length = min 20 84) := hid (by rw [List.length_map, HC.out]; decide)
  have HO := hid ho
  have HOO := hid ho.one
  have dk : decide ((k : Int) < 6) = true := by simp; omega
  have ek : decide (k < 6) = true := by simp; omega
  clear hsf hcl ssf scl ho
  go_enter Salg.func29, Salg.ntmps29
  go_wp2_with (first
    | ((with_reducible apply L_box (d := 6) M); rfl; clear M; intro t6 w1 ht6 M; simp only [Act.put, List.setIfInBounds_toArray, List.set_cons_zero, List.set_cons_succ])
    | ((with_reducible apply L_box (d := 7) M); rfl; clear M; intro t7 w1 ht7 M; simp only [Act.put, List.setIfInBounds_toArray, List.set_cons_zero, List.set_cons_succ])
    | ((with_reducible apply L_box (d := 8) M); rfl; clear M; intro t8 w1 ht8 M; simp only [Act.put, List.setIfInBounds_toArray, List.set_cons_zero, List.set_cons_succ])
    | ((with_reducible apply W_loadCell (b := t7) (i := 0) (v := .bool false)); rfl; exact M.r1; exact HV0.out; exact Salg.underlying4; rfl; simp only [Act.put, List.setIfInBounds_toArray, List.set_cons_zero, List.set_cons_succ])
    | ((with_reducible apply W_loadCellG (b := t7) (i := 3) (v := .int .u16 0)); rfl; rfl; exact M.r1; exact HV3.out; exact Salg.underlying53; rfl; simp only [Act.put, List.setIfInBounds_toArray, List.set_cons_zero, List.set_cons_succ])
    | ((with_reducible apply W_loadCellG (b := t7) (i := 2) (v := .int .u8 (dp : Int))); rfl; rfl; exact M.r1; exact HV2.out; exact Salg.underlying5; rfl; simp only [Act.put, List.setIfInBounds_toArray, List.set_cons_zero, List.set_cons_succ])
    | ((with_reducible apply W_loadCellG (b := t6) (i := 216) (v := n8 dp)); rfl; rfl; exact M.r2; exact HR216.out; exact Salg.underlying5; rfl; simp only [Act.put, List.setIfInBounds_toArray, List.set_cons_zero, List.set_cons_succ])
    | ((with_reducible apply W_loadXG (b := t7) (o := 6) (n := 20) (vs := (sf.map n8).toArray)); rfl; rfl; exact M.r1; exact Salg.underlying45; rfl; exact size45; exact HVZ1.out; exact HVS.out; simp only [Act.put, List.setIfInBounds_toArray, List.set_cons_zero, List.set_cons_succ])
    | ((with_reducible apply W_loadXG (b := t6) (o := 175) (n := 20) (vs := (sf.map n8).toArray)); rfl; rfl; exact M.r2; exact Salg.underlying45; rfl; exact size45; exact HRZ1.out; exact HRS.out; simp only [Act.put, List.setIfInBounds_toArray, List.set_cons_zero, List.set_cons_succ])
    | ((with_reducible apply W_neq8G (l := sf)); rfl; rfl; rfl; exact Salg.underlying45; exact Salg.underlying5; exact size5; exact guard45; exact HS.out; simp only [Act.put, List.setIfInBounds_toArray, List.set_cons_zero, List.set_cons_succ])
    | ((with_reducible apply W_loadXG (b := t7) (o := 26) (n := 20) (vs := (cl.map n8).toArray)); rfl; rfl; exact M.r1; exact Salg.underlying45; rfl; exact size45; exact HVZ2.out; exact HVC.out; simp only [Act.put, List.setIfInBounds_toArray, List.set_cons_zero, List.set_cons_succ])
    | ((with_reducible apply W_loadXG (b := t6) (o := 195) (n := 20) (vs := (cl.map n8).toArray)); rfl; rfl; exact M.r2; exact Salg.underlying45; rfl; exact size45; exact HRZ2.out; exact HRC.out; simp only [Act.put, List.setIfInBounds_toArray, List.set_cons_zero, List.set_cons_succ])
    | ((with_reducible apply W_neq8G (l := cl)); rfl; rfl; rfl; exact Salg.underlying45; exact Salg.underlying5; exact size5; exact guard45; exact HC.out; simp only [Act.put, List.setIfInBounds_toArray, List.set_cons_zero, List.set_cons_succ])
    | ((with_reducible apply W_loadCellG (b := t7) (i := 1) (v := .bool st)); rfl; rfl; exact M.r1; exact HV1.out; exact Salg.underlying4; rfl; simp only [Act.put, List.setIfInBounds_toArray, List.set_cons_zero, List.set_cons_succ])
    | ((with_reducible apply W_loadCellG (b := t6) (i := 217) (v := .bool st)); rfl; rfl; exact M.r2; exact HR217.out; exact Salg.underlying4; rfl; simp only [Act.put, List.setIfInBounds_toArray, List.set_cons_zero, List.set_cons_succ])
    | ((with_reducible apply W_loadCell (b := t8) (i := 0) (v := .int .u8 0)); rfl; exact M.r0; exact (by rfl); exact Salg.underlying5; rfl; simp only [Act.put, List.setIfInBounds_toArray, List.set_cons_zero, List.set_cons_succ])
    | ((with_reducible apply W_loadCellG (b := t8) (i := 1) (v := .int .u8 0)); rfl; rfl; exact M.r0; exact (by rfl); exact Salg.underlying5; rfl; simp only [Act.put, List.setIfInBounds_toArray, List.set_cons_zero, List.set_cons_succ])
    | ((with_reducible apply W_make8 (n := 128) M); rfl; rfl; omega; omega; omega; exact Salg.underlying40; exact info5; clear M; intro bb w2 hbb M; simp only [Act.put, List.setIfInBounds_toArray, List.set_cons_zero, List.set_cons_succ]))
  refine S_region (by kernel_rfl) ?_
  refine V_quiet 0 4 (by kernel_rfl) (by decide) M.drew ?_
  clear M
  simp only [List.take_succ_cons, List.take_zero, List.drop_zero, List.drop_succ_cons, Nat.sub_zero, Nat.reduceSub]
  ((with_reducible apply V_run); rfl; (intro w M; go_simp; (try go_ints); (try simp only [↓IntWalk.iteOmega]); (try with_reducible rfl)); simp only [Act.put, List.setIfInBounds_toArray, List.set_cons_zero, List.set_cons_succ])
  ((with_reducible apply V_run (v := .slice (some ⟨bb, 12, none⟩) 116 116)); rfl; (intro w M; kernel_rfl); simp only [Act.put, List.setIfInBounds_toArray, List.set_cons_zero, List.set_cons_succ])
  ((with_reducible apply V_run); rfl; (intro w M; go_simp; (try go_ints); (try simp only [↓IntWalk.iteOmega]); (try with_reducible rfl)); simp only [Act.put, List.setIfInBounds_toArray, List.set_cons_zero, List.set_cons_succ])
  ((with_reducible apply V_run (v := .slice (some ⟨t6, 175, none⟩) 20 20)); rfl; (intro w M; kernel_rfl); simp only [Act.put, List.setIfInBounds_toArray, List.set_cons_zero, List.set_cons_succ])
  refine V_nil ?_
  intro w4 M
  refine S_seg 4 5 (by kernel_rfl) (by decide) ?_
  simp only [List.take_succ_cons, List.take_zero, List.drop_zero, List.drop_succ_cons, Nat.sub_zero, Nat.reduceSub]
  go_wp2_with ((with_reducible apply W_copyAt (b := bb) (o := 12) (b' := t6) (so := 175) (news := sf.map n8) (cur := ((List.replicate 128 0).map n8).toArray) (t := 5)); rfl; rfl; exact Salg.underlying40; exact size5; exact M.r0; exact M.r3; exact HL1.out; exact HX1.out; exact HF1.out; exact n8_onesL _; intro w5 K hr4; rw [HP1.out] at hr4; replace M := Mem.callPut (L1 := []) M (Or.inr hbb) K hr4; clear K hr4; simp only [List.cons_append, List.nil_append] at M; simp only [Act.put, List.setIfInBounds_toArray, List.set_cons_zero, List.set_cons_succ])
  refine S_done ?_
  go_wp2_with fail
  refine S_region (by kernel_rfl) ?_
  refine V_quiet 0 4 (by kernel_rfl) (by decide) M.drew ?_
  clear M
  simp only [List.take_succ_cons, List.take_zero, List.drop_zero, List.drop_succ_cons, Nat.sub_zero, Nat.reduceSub]
  ((with_reducible apply V_run); rfl; (intro w M; go_simp; (try go_ints); (try simp only [↓IntWalk.iteOmega]); (try with_reducible rfl)); simp only [Act.put, List.setIfInBounds_toArray, List.set_cons_zero, List.set_cons_succ])
  ((with_reducible apply V_run (v := .slice (some ⟨bb, 44, none⟩) 84 84)); rfl; (intro w M; kernel_rfl); simp only [Act.put, List.setIfInBounds_toArray, List.set_cons_zero, List.set_cons_succ])
  ((with_reducible apply V_run); rfl; (intro w M; go_simp; (try go_ints); (try simp only [↓IntWalk.iteOmega]); (try with_reducible rfl)); simp only [Act.put, List.setIfInBounds_toArray, List.set_cons_zero, List.set_cons_succ])
  ((with_reducible apply V_run (v := .slice (some ⟨t6, 195, none⟩) 20 20)); rfl; (intro w M; kernel_rfl); simp only [Act.put, List.setIfInBounds_toArray, List.set_cons_zero, List.set_cons_succ])
  refine V_nil ?_
  intro w4 M
  refine S_seg 4 5 (by kernel_rfl) (by decide) ?_
  simp only [List.take_succ_cons, List.take_zero, List.drop_zero, List.drop_succ_cons, Nat.sub_zero, Nat.reduceSub]
  go_wp2_with ((with_reducible apply W_copyAt (b := bb) (o := 44) (b' := t6) (so := 195) (news := cl.map n8) (cur := ((List.replicate 12 0 ++ (sf ++ List.replicate 96 0)).map n8).toArray) (t := 5)); rfl; rfl; exact Salg.underlying40; exact size5; exact M.r0; exact M.r3; exact HL2.out; exact HX2.out; exact HF2.out; exact n8_onesL _; intro w5 K hr4; rw [HP2.out] at hr4; replace M := Mem.callPut (L1 := []) M (Or.inr hbb) K hr4; clear K hr4; simp only [List.cons_append, List.nil_append] at M; simp only [Act.put, List.setIfInBounds_toArray, List.set_cons_zero, List.set_cons_succ])
  refine S_done ?_
  go_wp2_with (first
    | ((with_reducible apply W_loadCell (b := t6) (i := 215) (v := n8 vl)); rfl; exact M.r3; exact HR215.out; exact Salg.underlying5; rfl; simp only [Act.put, List.setIfInBounds_toArray, List.set_cons_zero, List.set_cons_succ])
    | ((with_reducible apply W_stV (b := bb) (o := 95) (v := n8 vl)); rfl; rfl; rfl; exact M.r0; exact size5; exact HF3.out; intro w5 K hr3; rw [HP3.out] at hr3; replace M := Mem.callPut (L1 := []) M (Or.inr hbb) K hr3; clear K hr3; simp only [List.cons_append, List.nil_append] at M))
  refine (sender_any _).mono ?_
  rintro e w2 ⟨rfl, K⟩
  replace M := M.call K
  clear K
  go_wp2_with (first
    | ((with_reducible apply L_allocA (d := 12) M); exact zero45; clear M; intro t12 w1 ht12 M; simp only [Act.put, List.setIfInBounds_toArray, List.set_cons_zero, List.set_cons_succ])
    | ((with_reducible apply W_storeK (b := t12) (vs := ((ad 240).map n8).toArray)); rfl; rfl; exact M.r0; exact size45; rfl; exact oneL rfl; intro w5 K hr3; replace M := Mem.callPut (L1 := []) M (Or.inr ht12) K hr3; clear K hr3; simp only [List.cons_append, List.nil_append] at M))
  refine S_region (by kernel_rfl) ?_
  refine V_quiet 0 3 (by kernel_rfl) (by decide) M.drew ?_
  clear M
  simp only [List.take_succ_cons, List.take_zero, List.drop_zero, List.drop_succ_cons, Nat.sub_zero, Nat.reduceSub]
  ((with_reducible apply V_run); rfl; (intro w M; go_simp; (try go_ints); (try simp only [↓IntWalk.iteOmega]); (try with_reducible rfl)); simp only [Act.put, List.setIfInBounds_toArray, List.set_cons_zero, List.set_cons_succ])
  ((with_reducible apply V_run (v := .slice (some ⟨bb, 108, none⟩) 20 20)); rfl; (intro w M; kernel_rfl); simp only [Act.put, List.setIfInBounds_toArray, List.set_cons_zero, List.set_cons_succ])
  ((with_reducible apply V_run (v := .slice (some ⟨t12, 0, none⟩) 20 20)); rfl; (intro w M; kernel_rfl); simp only [Act.put, List.setIfInBounds_toArray, List.set_cons_zero, List.set_cons_succ])
  refine V_nil ?_
  intro w4 M
  refine S_seg 3 4 (by kernel_rfl) (by decide) ?_
  simp only [List.take_succ_cons, List.take_zero, List.drop_zero, List.drop_succ_cons, Nat.sub_zero, Nat.reduceSub]
  go_wp2_with ((with_reducible apply W_copyAt (b := bb) (o := 108) (b' := t12) (so := 0) (news := (ad 240).map n8) (cur := ((List.replicate 12 0 ++ (sf ++ (List.replicate 12 0 ++ (cl ++ (List.replicate 31 0 ++ (vl :: List.replicate 32 0)))))).map n8).toArray) (t := 5)); rfl; rfl; exact Salg.underlying40; exact size5; exact M.r1; exact M.r0; exact rfl; exact HX4.out; exact HF4.out; exact n8_onesL _; intro w5 K hr4; rw [HP4.out] at hr4; replace M := Mem.callPut (L1 := [_]) M (Or.inr hbb) K hr4; clear K hr4; simp only [List.cons_append, List.nil_append] at M; simp only [Act.put, List.setIfInBounds_toArray, List.set_cons_zero, List.set_cons_succ])
  refine S_done ?_
  go_wp2_with ((with_reducible apply W_loadCell (b := t8) (i := 3) (v := o)); rfl; exact M.r2; exact (by rfl); exact Salg.underlying40; rfl; simp only [Act.put, List.setIfInBounds_toArray, List.set_cons_zero, List.set_cons_succ])
  have HO2 := hid (HO.out.kept M.kept)
  have HLN : Hid ((probeM sf cl vl).length = 128) := hid (probeM_len HS.out HC.out)
  obtain ⟨ob, ocp, ot, ocs, eo, hor, hoc⟩ := nat_at HO2.out (by rw [HLN.out]; decide)
  rw [HLN.out] at eo
  subst eo
  refine (equalBytes_yes ob 0 ot bb 0 5 ocp 128 _ _ _ 128 _ hor M.r1 hoc (at_map _) HLN.out HSM.out).mono ?_
  rintro e w9 ⟨rfl, hw⟩
  replace hw := hw.symm
  subst hw
  go_wp2_with fail
  go_ret
  exact ⟨rfl, M.kept⟩

set_option maxHeartbeats 4000000 in
set_option maxRecDepth 100000 in
theorem holds_high (k : Nat) (cs dv : Value) (t : Nat) (crt : Bool) (v : Nat) (sf cl : List Nat) (vl dp : Nat) (st : Bool) (G : Nat) (sv mv rv u o : Value) (ma : List Nat) (ov : Value) (w : World) (hsf : sf.length = 20) (hcl : cl.length = 20) (ssf : Small sf) (scl : Small cl) (hvl : vl < 256) (hk : ¬ k < 6) (N : Nat) (oc : Value) (ho : NatV w o []) (hoc : NatV w oc (probeM sf cl vl)) (hlk : ∀ w', Kept [] w w' → Calls Salg.prog 126 #[ov, A8 sf] w' fun e w'' => e = .returned (.agg (oaG sf N (padN vl) oc nilS).toArray) ∧ Kept [] w' w'') : Calls Salg.prog 29 #[n8 k, .agg (rwL cs t crt v dv sf cl vl dp st).toArray, .agg (vwG st dp 0 G sf cl sv mv rv).toArray, .agg (rcM u o ma).toArray, ov] w fun e w' => e = .returned (.bool true) ∧ Kept [] w w' := by
  have M := Mem.start w []
  have HS := hid hsf
  have HC := hid hcl
  have HSM := hid (small_probeM ssf scl hvl)
  have HR215 := hid (rw_215 cs t crt v dv (sf := sf) (cl := cl) vl dp st HS.out HC.out)
  have HR216 := hid (rw_216 cs t crt v dv (sf := sf) (cl := cl) vl dp st HS.out HC.out)
  have HR217 := hid (rw_217 cs t crt v dv (sf := sf) (cl := cl) vl dp st HS.out HC.out)
  have HRS := hid (rw_sf cs t crt v dv (sf := sf) (cl := cl) vl dp st HS.out HC.out)
  have HRC := hid (rw_cl cs t crt v dv (sf := sf) (cl := cl) vl dp st HS.out HC.out)
  have HRZ := hid (rw_size cs t crt v dv (sf := sf) (cl := cl) vl dp st HS.out HC.out)
  have HV0 := hid (vq_0 st dp 0 G (sf := sf) (cl := cl) sv mv rv HS.out HC.out)
  have HV1 := hid (vq_1 st dp 0 G (sf := sf) (cl := cl) sv mv rv HS.out HC.out)
  have HV2 := hid (vq_2 st dp 0 G (sf := sf) (cl := cl) sv mv rv HS.out HC.out)
  have HV3 := hid (vq_3 st dp 0 G (sf := sf) (cl := cl) sv mv rv HS.out HC.out)
  have HVS := hid (vq_sf st dp 0 G (sf := sf) (cl := cl) sv mv rv HS.out HC.out)
  have HVC := hid (vq_cl st dp 0 G (sf := sf) (cl := cl) sv mv rv HS.out HC.out)
  have HVZ := hid (vq_size st dp 0 G (sf := sf) (cl := cl) sv mv rv HS.out HC.out)
  have HRZ1 : Hid (175 + 20 ≤ (rwL cs t crt v dv sf cl vl dp st).toArray.size) := hid (by rw [HRZ.out]; decide)
  have HRZ2 : Hid (195 + 20 ≤ (rwL cs t crt v dv sf cl vl dp st).toArray.size) := hid (by rw [HRZ.out]; decide)
  have HVZ1 : Hid (6 + 20 ≤ (vwG st dp 0 G sf cl sv mv rv).toArray.size) := hid (by rw [HVZ.out]; decide)
  have HVZ2 : Hid (26 + 20 ≤ (vwG st dp 0 G sf cl sv mv rv).toArray.size) := hid (by rw [HVZ.out]; decide)
  have HX1 := hid (ext_at HRZ1.out HS.out HRS.out)
  have HX2 := hid (ext_at HRZ2.out HC.out HRC.out)
  have HX4 : Hid (∀ (j : Nat) (u : Value), ((ad 240).map n8)[j]? = some u → ((ad 240).map n8).toArray[0 + j]? = some u) := by
    intro j u hj
    rw [Nat.zero_add, List.getElem?_toArray]
    exact hj
  have HP1 := hid (buf_1 (sf := sf) (cl := cl) vl HS.out HC.out)
  have HP2 := hid (buf_2 (sf := sf) (cl := cl) vl HS.out HC.out)
  have HP3 := hid (buf_3 (sf := sf) (cl := cl) vl HS.out HC.out)
  have HP4 := hid (buf_4 (sf := sf) (cl := cl) vl HS.out HC.out)
  have HF1 : Hid (12 + (sf.map n8).length ≤ ((List.replicate 128 0).map n8).toArray.size) := hid (by rw [buf_s0 (sf := sf) (cl := cl) vl HS.out HC.out, List.length_map, HS.out]; decide)
  have HF2 : Hid (44 + (cl.map n8).length ≤ ((List.replicate 12 0 ++ (sf ++ List.replicate 96 0)).map n8).toArray.size) := hid (by rw [buf_s1 (sf := sf) (cl := cl) vl HS.out HC.out, List.length_map, HC.out]; decide)
  have HF3 : Hid (95 < ((List.replicate 12 0 ++ (sf ++ (List.replicate 12 0 ++ (cl ++ List.replicate 64 0)))).map n8).toArray.size) := hid (by rw [buf_s2 (sf := sf) (cl := cl) vl HS.out HC.out]; decide)
  have HF4 : Hid (108 + ((ad 240).map n8).length ≤ ((List.replicate 12 0 ++ (sf ++ (List.replicate 12 0 ++ (cl ++ (List.replicate 31 0 ++ (vl :: List.replicate 32 0)))))).map n8).toArray.size) := hid (by rw [buf_s3 (sf := sf) (cl := cl) vl HS.out HC.out]; decide)
  have HL1 : Hid ((sf.map n8).length = min 20 116) := hid (by rw [List.length_map, HS.out]; decide)
  have HL2 : Hid ((cl.map n8).length = min 20 84) := hid (by rw [List.length_map, HC.out]; decide)
  have HO := hid ho
  have HOO := hid ho.one
  have dk : decide ((k : Int) < 6) = false := by simp; omega
  have ek : decide (k < 6) = false := by simp; omega
  have HLK := hid hlk
  have HOC := hid hoc
  have HOC1 := hid hoc.one
  clear hsf hcl ssf scl ho hlk hoc
  go_enter Salg.func29, Salg.ntmps29
  go_wp2_with (first
    | ((with_reducible apply L_box (d := 6) M); rfl; clear M; intro t6 w1 ht6 M; simp only [Act.put, List.setIfInBounds_toArray, List.set_cons_zero, List.set_cons_succ])
    | ((with_reducible apply L_box (d := 7) M); rfl; clear M; intro t7 w1 ht7 M; simp only [Act.put, List.setIfInBounds_toArray, List.set_cons_zero, List.set_cons_succ])
    | ((with_reducible apply L_box (d := 8) M); rfl; clear M; intro t8 w1 ht8 M; simp only [Act.put, List.setIfInBounds_toArray, List.set_cons_zero, List.set_cons_succ])
    | ((with_reducible apply W_loadCell (b := t7) (i := 0) (v := .bool false)); rfl; exact M.r1; exact HV0.out; exact Salg.underlying4; rfl; simp only [Act.put, List.setIfInBounds_toArray, List.set_cons_zero, List.set_cons_succ])
    | ((with_reducible apply W_loadCellG (b := t7) (i := 3) (v := .int .u16 0)); rfl; rfl; exact M.r1; exact HV3.out; exact Salg.underlying53; rfl; simp only [Act.put, List.setIfInBounds_toArray, List.set_cons_zero, List.set_cons_succ])
    | ((with_reducible apply W_loadCellG (b := t7) (i := 2) (v := .int .u8 (dp : Int))); rfl; rfl; exact M.r1; exact HV2.out; exact Salg.underlying5; rfl; simp only [Act.put, List.setIfInBounds_toArray, List.set_cons_zero, List.set_cons_succ])
    | ((with_reducible apply W_loadCellG (b := t6) (i := 216) (v := n8 dp)); rfl; rfl; exact M.r2; exact HR216.out; exact Salg.underlying5; rfl; simp only [Act.put, List.setIfInBounds_toArray, List.set_cons_zero, List.set_cons_succ])
    | ((with_reducible apply W_loadXG (b := t7) (o := 6) (n := 20) (vs := (sf.map n8).toArray)); rfl; rfl; exact M.r1; exact Salg.underlying45; rfl; exact size45; exact HVZ1.out; exact HVS.out; simp only [Act.put, List.setIfInBounds_toArray, List.set_cons_zero, List.set_cons_succ])
    | ((with_reducible apply W_loadXG (b := t6) (o := 175) (n := 20) (vs := (sf.map n8).toArray)); rfl; rfl; exact M.r2; exact Salg.underlying45; rfl; exact size45; exact HRZ1.out; exact HRS.out; simp only [Act.put, List.setIfInBounds_toArray, List.set_cons_zero, List.set_cons_succ])
    | ((with_reducible apply W_neq8G (l := sf)); rfl; rfl; rfl; exact Salg.underlying45; exact Salg.underlying5; exact size5; exact guard45; exact HS.out; simp only [Act.put, List.setIfInBounds_toArray, List.set_cons_zero, List.set_cons_succ])
    | ((with_reducible apply W_loadXG (b := t7) (o := 26) (n := 20) (vs := (cl.map n8).toArray)); rfl; rfl; exact M.r1; exact Salg.underlying45; rfl; exact size45; exact HVZ2.out; exact HVC.out; simp only [Act.put, List.setIfInBounds_toArray, List.set_cons_zero, List.set_cons_succ])
    | ((with_reducible apply W_loadXG (b := t6) (o := 195) (n := 20) (vs := (cl.map n8).toArray)); rfl; rfl; exact M.r2; exact Salg.underlying45; rfl; exact size45; exact HRZ2.out; exact HRC.out; simp only [Act.put, List.setIfInBounds_toArray, List.set_cons_zero, List.set_cons_succ])
    | ((with_reducible apply W_neq8G (l := cl)); rfl; rfl; rfl; exact Salg.underlying45; exact Salg.underlying5; exact size5; exact guard45; exact HC.out; simp only [Act.put, List.setIfInBounds_toArray, List.set_cons_zero, List.set_cons_succ])
    | ((with_reducible apply W_loadCellG (b := t7) (i := 1) (v := .bool st)); rfl; rfl; exact M.r1; exact HV1.out; exact Salg.underlying4; rfl; simp only [Act.put, List.setIfInBounds_toArray, List.set_cons_zero, List.set_cons_succ])
    | ((with_reducible apply W_loadCellG (b := t6) (i := 217) (v := .bool st)); rfl; rfl; exact M.r2; exact HR217.out; exact Salg.underlying4; rfl; simp only [Act.put, List.setIfInBounds_toArray, List.set_cons_zero, List.set_cons_succ])
    | ((with_reducible apply W_loadCell (b := t8) (i := 0) (v := .int .u8 0)); rfl; exact M.r0; exact (by rfl); exact Salg.underlying5; rfl; simp only [Act.put, List.setIfInBounds_toArray, List.set_cons_zero, List.set_cons_succ])
    | ((with_reducible apply W_loadCellG (b := t8) (i := 1) (v := .int .u8 0)); rfl; rfl; exact M.r0; exact (by rfl); exact Salg.underlying5; rfl; simp only [Act.put, List.setIfInBounds_toArray, List.set_cons_zero, List.set_cons_succ])
    | ((with_reducible apply W_make8 (n := 128) M); rfl; rfl; omega; omega; omega; exact Salg.underlying40; exact info5; clear M; intro bb w2 hbb M; simp only [Act.put, List.setIfInBounds_toArray, List.set_cons_zero, List.set_cons_succ]))
  refine S_region (by kernel_rfl) ?_
  refine V_quiet 0 4 (by kernel_rfl) (by decide) M.drew ?_
  clear M
  simp only [List.take_succ_cons, List.take_zero, List.drop_zero, List.drop_succ_cons, Nat.sub_zero, Nat.reduceSub]
  ((with_reducible apply V_run); rfl; (intro w M; go_simp; (try go_ints); (try simp only [↓IntWalk.iteOmega]); (try with_reducible rfl)); simp only [Act.put, List.setIfInBounds_toArray, List.set_cons_zero, List.set_cons_succ])
  ((with_reducible apply V_run (v := .slice (some ⟨bb, 12, none⟩) 116 116)); rfl; (intro w M; kernel_rfl); simp only [Act.put, List.setIfInBounds_toArray, List.set_cons_zero, List.set_cons_succ])
  ((with_reducible apply V_run); rfl; (intro w M; go_simp; (try go_ints); (try simp only [↓IntWalk.iteOmega]); (try with_reducible rfl)); simp only [Act.put, List.setIfInBounds_toArray, List.set_cons_zero, List.set_cons_succ])
  ((with_reducible apply V_run (v := .slice (some ⟨t6, 175, none⟩) 20 20)); rfl; (intro w M; kernel_rfl); simp only [Act.put, List.setIfInBounds_toArray, List.set_cons_zero, List.set_cons_succ])
  refine V_nil ?_
  intro w4 M
  refine S_seg 4 5 (by kernel_rfl) (by decide) ?_
  simp only [List.take_succ_cons, List.take_zero, List.drop_zero, List.drop_succ_cons, Nat.sub_zero, Nat.reduceSub]
  go_wp2_with ((with_reducible apply W_copyAt (b := bb) (o := 12) (b' := t6) (so := 175) (news := sf.map n8) (cur := ((List.replicate 128 0).map n8).toArray) (t := 5)); rfl; rfl; exact Salg.underlying40; exact size5; exact M.r0; exact M.r3; exact HL1.out; exact HX1.out; exact HF1.out; exact n8_onesL _; intro w5 K hr4; rw [HP1.out] at hr4; replace M := Mem.callPut (L1 := []) M (Or.inr hbb) K hr4; clear K hr4; simp only [List.cons_append, List.nil_append] at M; simp only [Act.put, List.setIfInBounds_toArray, List.set_cons_zero, List.set_cons_succ])
  refine S_done ?_
  go_wp2_with fail
  refine S_region (by kernel_rfl) ?_
  refine V_quiet 0 4 (by kernel_rfl) (by decide) M.drew ?_
  clear M
  simp only [List.take_succ_cons, List.take_zero, List.drop_zero, List.drop_succ_cons, Nat.sub_zero, Nat.reduceSub]
  ((with_reducible apply V_run); rfl; (intro w M; go_simp; (try go_ints); (try simp only [↓IntWalk.iteOmega]); (try with_reducible rfl)); simp only [Act.put, List.setIfInBounds_toArray, List.set_cons_zero, List.set_cons_succ])
  ((with_reducible apply V_run (v := .slice (some ⟨bb, 44, none⟩) 84 84)); rfl; (intro w M; kernel_rfl); simp only [Act.put, List.setIfInBounds_toArray, List.set_cons_zero, List.set_cons_succ])
  ((with_reducible apply V_run); rfl; (intro w M; go_simp; (try go_ints); (try simp only [↓IntWalk.iteOmega]); (try with_reducible rfl)); simp only [Act.put, List.setIfInBounds_toArray, List.set_cons_zero, List.set_cons_succ])
  ((with_reducible apply V_run (v := .slice (some ⟨t6, 195, none⟩) 20 20)); rfl; (intro w M; kernel_rfl); simp only [Act.put, List.setIfInBounds_toArray, List.set_cons_zero, List.set_cons_succ])
  refine V_nil ?_
  intro w4 M
  refine S_seg 4 5 (by kernel_rfl) (by decide) ?_
  simp only [List.take_succ_cons, List.take_zero, List.drop_zero, List.drop_succ_cons, Nat.sub_zero, Nat.reduceSub]
  go_wp2_with ((with_reducible apply W_copyAt (b := bb) (o := 44) (b' := t6) (so := 195) (news := cl.map n8) (cur := ((List.replicate 12 0 ++ (sf ++ List.replicate 96 0)).map n8).toArray) (t := 5)); rfl; rfl; exact Salg.underlying40; exact size5; exact M.r0; exact M.r3; exact HL2.out; exact HX2.out; exact HF2.out; exact n8_onesL _; intro w5 K hr4; rw [HP2.out] at hr4; replace M := Mem.callPut (L1 := []) M (Or.inr hbb) K hr4; clear K hr4; simp only [List.cons_append, List.nil_append] at M; simp only [Act.put, List.setIfInBounds_toArray, List.set_cons_zero, List.set_cons_succ])
  refine S_done ?_
  go_wp2_with (first
    | ((with_reducible apply W_loadCell (b := t6) (i := 215) (v := n8 vl)); rfl; exact M.r3; exact HR215.out; exact Salg.underlying5; rfl; simp only [Act.put, List.setIfInBounds_toArray, List.set_cons_zero, List.set_cons_succ])
    | ((with_reducible apply W_stV (b := bb) (o := 95) (v := n8 vl)); rfl; rfl; rfl; exact M.r0; exact size5; exact HF3.out; intro w5 K hr3; rw [HP3.out] at hr3; replace M := Mem.callPut (L1 := []) M (Or.inr hbb) K hr3; clear K hr3; simp only [List.cons_append, List.nil_append] at M))
  refine (sender_any _).mono ?_
  rintro e w2 ⟨rfl, K⟩
  replace M := M.call K
  clear K
  go_wp2_with (first
    | ((with_reducible apply L_allocA (d := 12) M); exact zero45; clear M; intro t12 w1 ht12 M; simp only [Act.put, List.setIfInBounds_toArray, List.set_cons_zero, List.set_cons_succ])
    | ((with_reducible apply W_storeK (b := t12) (vs := ((ad 240).map n8).toArray)); rfl; rfl; exact M.r0; exact size45; rfl; exact oneL rfl; intro w5 K hr3; replace M := Mem.callPut (L1 := []) M (Or.inr ht12) K hr3; clear K hr3; simp only [List.cons_append, List.nil_append] at M))
  refine S_region (by kernel_rfl) ?_
  refine V_quiet 0 3 (by kernel_rfl) (by decide) M.drew ?_
  clear M
  simp only [List.take_succ_cons, List.take_zero, List.drop_zero, List.drop_succ_cons, Nat.sub_zero, Nat.reduceSub]
  ((with_reducible apply V_run); rfl; (intro w M; go_simp; (try go_ints); (try simp only [↓IntWalk.iteOmega]); (try with_reducible rfl)); simp only [Act.put, List.setIfInBounds_toArray, List.set_cons_zero, List.set_cons_succ])
  ((with_reducible apply V_run (v := .slice (some ⟨bb, 108, none⟩) 20 20)); rfl; (intro w M; kernel_rfl); simp only [Act.put, List.setIfInBounds_toArray, List.set_cons_zero, List.set_cons_succ])
  ((with_reducible apply V_run (v := .slice (some ⟨t12, 0, none⟩) 20 20)); rfl; (intro w M; kernel_rfl); simp only [Act.put, List.setIfInBounds_toArray, List.set_cons_zero, List.set_cons_succ])
  refine V_nil ?_
  intro w4 M
  refine S_seg 3 4 (by kernel_rfl) (by decide) ?_
  simp only [List.take_succ_cons, List.take_zero, List.drop_zero, List.drop_succ_cons, Nat.sub_zero, Nat.reduceSub]
  go_wp2_with ((with_reducible apply W_copyAt (b := bb) (o := 108) (b' := t12) (so := 0) (news := (ad 240).map n8) (cur := ((List.replicate 12 0 ++ (sf ++ (List.replicate 12 0 ++ (cl ++ (List.replicate 31 0 ++ (vl :: List.replicate 32 0)))))).map n8).toArray) (t := 5)); rfl; rfl; exact Salg.underlying40; exact size5; exact M.r1; exact M.r0; exact rfl; exact HX4.out; exact HF4.out; exact n8_onesL _; intro w5 K hr4; rw [HP4.out] at hr4; replace M := Mem.callPut (L1 := [_]) M (Or.inr hbb) K hr4; clear K hr4; simp only [List.cons_append, List.nil_append] at M; simp only [Act.put, List.setIfInBounds_toArray, List.set_cons_zero, List.set_cons_succ])
  refine S_done ?_
  go_wp2_with ((with_reducible apply W_loadX (b := t6) (o := 175) (n := 20) (vs := (sf.map n8).toArray)); rfl; exact M.r4; exact Salg.underlying45; rfl; exact size45; exact HRZ1.out; exact HRS.out; simp only [Act.put, List.setIfInBounds_toArray, List.set_cons_zero, List.set_cons_succ])
  refine (HLK.out _ M.kept).mono ?_
  rintro e w2 ⟨rfl, K⟩
  replace M := M.call K
  clear K
  have HB32 : Hid ((padN vl).length = 32) := hid (by simp [padN])
  have HAO : Hid (∀ u ∈ (oaG sf N (padN vl) oc nilS).toArray.toList, u.oneCell' = true) := hid (oneT (oaG_one HOC1.out rfl))
  have HA53 : Hid ((oaG sf N (padN vl) oc nilS).toArray[53]? = some oc) := hid (by rw [List.getElem?_toArray]; exact oaG_53 HS.out HB32.out)
  have HA21 : Hid ((oaG sf N (padN vl) oc nilS).toArray.extract 21 (21 + 32) = ((padN vl).map n8).toArray) := hid (oaG_bal HS.out HB32.out)
  have HASZ : Hid ((oaG sf N (padN vl) oc nilS).toArray.size = 55) := hid (by rw [List.size_toArray]; exact oaG_len HS.out HB32.out)
  have HASZ2 : Hid (21 + 32 ≤ (oaG sf N (padN vl) oc nilS).toArray.size) := hid (by rw [HASZ.out]; decide)
  have HLN : Hid ((probeM sf cl vl).length = 128) := hid (probeM_len HS.out HC.out)
  obtain ⟨op, ocap, eo⟩ : ∃ p c, o = .slice p 0 c := (by obtain ⟨p, c, e, _⟩ := HO.out; exact ⟨p, c, e⟩)
  subst eo
  go_wp2_with (first
    | ((with_reducible apply L_allocA (d := 13) M); exact zero123; clear M; intro t13 w1 ht13 M; simp only [Act.put, List.setIfInBounds_toArray, List.set_cons_zero, List.set_cons_succ])
    | ((with_reducible apply W_storeK (b := t13) (vs := (oaG sf N (padN vl) oc nilS).toArray)); rfl; rfl; exact M.r0; exact size123; exact HASZ.out; exact HAO.out; intro w5 K hr3; replace M := Mem.callPut (L1 := []) M (Or.inr ht13) K hr3; clear K hr3; simp only [List.cons_append, List.nil_append] at M)
    | ((with_reducible apply W_loadCell (b := t8) (i := 3) (v := .slice op 0 ocap)); rfl; exact M.r3; exact (by rfl); exact Salg.underlying40; rfl; simp only [Act.put, List.setIfInBounds_toArray, List.set_cons_zero, List.set_cons_succ])
    | ((with_reducible apply W_loadCellG (b := t13) (i := 53) (v := oc)); rfl; rfl; exact M.r0; exact HA53.out; exact Salg.underlying40; rfl; simp only [Act.put, List.setIfInBounds_toArray, List.set_cons_zero, List.set_cons_succ]))
  have HO2 := hid (HOC.out.kept M.kept)
  obtain ⟨ob, ocp, ot, ocs, eoc, hor, hcc⟩ := nat_at HO2.out (by rw [HLN.out]; decide)
  rw [HLN.out] at eoc
  subst eoc
  refine (equalBytes_yes ob 0 ot bb 0 5 ocp 128 _ _ _ 128 _ hor M.r2 hcc (at_map _) HLN.out HSM.out).mono ?_
  rintro e w9 ⟨rfl, hw⟩
  replace hw := hw.symm
  subst hw
  go_wp2_with (first
    | ((with_reducible apply W_loadXG (b := t13) (o := 21) (n := 32) (vs := ((padN vl).map n8).toArray)); rfl; rfl; exact M.r0; exact Salg.underlying46; rfl; exact size46; exact HASZ2.out; exact HA21.out; simp only [Act.put, List.setIfInBounds_toArray, List.set_cons_zero, List.set_cons_succ])
    | ((with_reducible apply W_loadCellG (b := t6) (i := 215) (v := n8 vl)); rfl; rfl; exact M.r5; exact HR215.out; exact Salg.underlying5; rfl; simp only [Act.put, List.setIfInBounds_toArray, List.set_cons_zero, List.set_cons_succ])
    | ((with_reducible apply W_buildG (v := A8 (padN vl))); rfl; kernel_rfl; simp only [Act.put, List.setIfInBounds_toArray, List.set_cons_zero, List.set_cons_succ])
    | ((with_reducible apply W_eql8G (l := padN vl)); rfl; rfl; rfl; exact Salg.underlying46; exact Salg.underlying5; exact size5; exact guard46; exact HB32.out; simp only [Act.put, List.setIfInBounds_toArray, List.set_cons_zero, List.set_cons_succ]))
  go_ret
  exact ⟨rfl, M.kept⟩
end Go.Proofs.YgcsalGreat

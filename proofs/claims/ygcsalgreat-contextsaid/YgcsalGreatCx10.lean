/-
  Accounts by what they hold (AccD): account, setBalance.
-/
import Derived.Test.YgcsalGreatCx9
import Derived.Test.YgcsalGreatMv10
set_option linter.unusedSimpArgs false
set_option linter.unusedVariables false
namespace Go.Own
open Go.Proofs.YgcsalGreat
/-- What an account holds: its address, nonce, balance and code. -/
structure AD where
  adr : List Nat
  N : Nat
  B : Nat
  ds : List Nat
def AcD (w : World) (p : Ac) (d : AD) : Prop := p.adr = d.adr ∧ ∃ nv bv cu : Value, p.rest = [nv, bv, cu, nilS] ∧ NumV w nv d.N ∧ NumV w bv d.B ∧ NatV w cu d.ds
theorem AcD.keptN {X : List Nat} {w w' : World} {p : Ac} {d : AD} (h : AcD w p d) (k : Kept X w w') (hX : Hard X w) : AcD w' p d := by
  obtain ⟨h0, nv, bv, cu, h1, h2, h3, h4⟩ := h
  exact ⟨h0, nv, bv, cu, h1, h2.keptN k hX, h3.keptN k hX, h4.keptN k hX⟩
def AcDs (w : World) : List Ac → List AD → Prop
  | [], [] => True
  | p :: l, d :: D => AcD w p d ∧ AcDs w l D
  | _, _ => False
theorem AcDs.keptN {X : List Nat} {w w' : World} : ∀ {l : List Ac} {D : List AD}, AcDs w l D → Kept X w w' → Hard X w → AcDs w' l D
  | [], [], _, _, _ => trivial
  | _ :: _, _ :: _, h, k, hX => ⟨h.1.keptN k hX, h.2.keptN k hX⟩
  | [], _ :: _, h, _, _ => h.elim
  | _ :: _, [], h, _, _ => h.elim
theorem AcDs.len {w : World} : ∀ {l : List Ac} {D : List AD}, AcDs w l D → l.length = D.length
  | [], [], _ => rfl
  | _ :: _, _ :: _, h => by simp [h.2.len]
  | [], _ :: _, h => h.elim
  | _ :: _, [], h => h.elim
theorem AcDs.all {w : World} : ∀ {l : List Ac} {D : List AD}, AcDs w l D → ∀ p ∈ l, AccOK w p
  | [], [], _, p, hp => by cases hp
  | q :: l, d :: D, h, p, hp => by
    rcases List.mem_cons.1 hp with rfl | hp
    · obtain ⟨_, nv, bv, cu, h1, h2, h3, h4⟩ := h.1
      exact ⟨nv, bv, cu, _, _, _, h1, h2, h3, h4⟩
    · exact h.2.all p hp
  | [], _ :: _, h, _, _ => h.elim
  | _ :: _, [], h, _, _ => h.elim
theorem AcDs.find {w : World} {a : List Nat} {d : AD} : ∀ {l : List Ac} {D : List AD}, AcDs w l D → D.find? (fun x => x.adr == a) = some d → ∃ nv bv cu : Value, acFind l a = ⟨a, [nv, bv, cu, nilS]⟩ ∧ NumV w nv d.N ∧ NumV w bv d.B ∧ NatV w cu d.ds
  | [], [], _, e => by cases e
  | p :: l, x :: D, h, e => by
    obtain ⟨h0, nv, bv, cu, h1, h2, h3, h4⟩ := h.1
    rw [List.find?_cons] at e
    by_cases hx : (x.adr == a) = true
    · rw [hx] at e
      have hxd : x = d := Option.some.inj e
      refine ⟨nv, bv, cu, ?_, hxd ▸ h2, hxd ▸ h3, hxd ▸ h4⟩
      have ha : x.adr = a := by simpa using hx
      unfold acFind
      rw [List.find?_cons, show (p.adr == a) = true by rw [h0, ha]; simp]
      show p = _
      cases p
      simp only at h0 h1
      rw [h0, h1, ha]
    · have hx' : (x.adr == a) = false := by simpa using hx
      rw [hx'] at e
      obtain ⟨nv', bv', cu', q1, q2⟩ := h.2.find e
      refine ⟨nv', bv', cu', ?_, q2⟩
      unfold acFind at q1 ⊢
      rw [List.find?_cons, show (p.adr == a) = false by rw [h0]; exact hx']
      exact q1
  | [], _ :: _, h, _ => h.elim
  | _ :: _, [], h, _ => h.elim
def dPut (q : AD) : Bool → List AD → List AD
  | t, [] => if t then [] else [q]
  | t, x :: l => (if !t && !adLt x.adr q.adr then [q] else []) ++ (if x.adr = q.adr then [] else [x]) ++ dPut q (t || !adLt x.adr q.adr) l
theorem AcDs.app {w : World} : ∀ {l l' : List Ac} {D D' : List AD}, AcDs w l D → AcDs w l' D' → AcDs w (l ++ l') (D ++ D')
  | [], _, [], _, _, h => h
  | _ :: _, _, _ :: _, _, h, h' => ⟨h.1, h.2.app h'⟩
  | [], _, _ :: _, _, h, _ => h.elim
  | _ :: _, _, [], _, h, _ => h.elim
theorem AcDs.put {w : World} {q : Ac} {dq : AD} (hq : AcD w q dq) : ∀ (t : Bool) {l : List Ac} {D : List AD}, AcDs w l D → AcDs w (acPut q t l) (dPut dq t D)
  | t, [], [], _ => by
    cases t
    · exact ⟨hq, trivial⟩
    · exact trivial
  | t, x :: l, d :: D, h => by
    unfold acPut dPut
    rw [show x.adr = d.adr from h.1.1, show q.adr = dq.adr from hq.1]
    refine AcDs.app (AcDs.app ?_ ?_) (AcDs.put hq _ h.2)
    · split
      · exact ⟨hq, trivial⟩
      · exact trivial
    · split
      · exact trivial
      · exact ⟨h.1, trivial⟩
  | _, [], _ :: _, h => h.elim
  | _, _ :: _, [], h => h.elim
/-- The accounts of a world. -/
def AccD (D : List AD) (w : World) (v : Value) : Prop := ∃ l, AcsV w v l ∧ AcDs w l D
theorem AccD.still (D : List AD) : Still (AccD D) := by
  rintro X w w' v ⟨l, h1, h2⟩ k hX
  exact ⟨l, h1.keptN k hX, h2.keptN k hX⟩
theorem hard1 {w : World} {c tc : Nat} {cs : Array Value} (hr : w.heap[c]? = some (.cells cs tc (0, 0))) (ht : tc = 119 ∨ tc = 142) (ho : ∀ t l, Obj.cells cs tc (0, 0) ≠ R8 t l) : Hard [c] w := fun x hx => by
  simp only [List.mem_singleton] at hx
  subst hx
  exact ⟨cs, tc, hr, ht, ho⟩
end Go.Own
namespace Go.Proofs.YgcsalGreat
open Go.RowKit Go.Own
theorem account_D (c tc : Nat) (cs : Array Value) (va : Value) (D : List AD) (d : AD) (a : List Nat) (w : World) (hr : w.heap[c]? = some (.cells cs tc (0, 0))) (h0 : cs[0]? = some va) (hv : AccD D w va) (ha : a.length = 20) (hd : D.find? (fun x => x.adr == a) = some d) :
    Calls Salg.prog 85 #[.pointer (some ⟨c, 0, none⟩), A8 a] w fun e w' => ∃ nv bv cu : Value, e = .returned (.agg (⟨a, [nv, bv, cu, nilS]⟩ : Ac).cells.toArray) ∧ NumV w' nv d.N ∧ NumV w' bv d.B ∧ NatV w' cu d.ds ∧ Kept [] w w' := by
  obtain ⟨l, h1, h2⟩ := hv
  obtain ⟨nv, bv, cu, q1, q2, q3, q4⟩ := h2.find hd
  have := account_any c tc cs va l a w hr h0 h1 ha
  rw [q1] at this
  refine this.mono ?_
  rintro e w' ⟨rfl, K⟩
  exact ⟨nv, bv, cu, rfl, q2.kept K, q3.kept K, q4.kept K, K⟩
theorem setBalance_D (c : Nat) (cs : Array Value) (va nn : Value) (N : Nat) (D : List AD) (d : AD) (a : List Nat) (w : World) (hr : w.heap[c]? = some (.cells cs 119 (0, 0))) (hnb : ∀ t l, Obj.cells cs 119 (0, 0) ≠ R8 t l) (h0 : cs[0]? = some va) (hv : AccD D w va) (ha : a.length = 20) (hsa : Small a) (hN : NumV w nn N) (hd : D.find? (fun x => x.adr == a) = some d) (hN0 : d.N ≠ 0) (hll : D.length ≤ 400) :
    Calls Salg.prog 92 #[.pointer (some ⟨c, 0, none⟩), A8 a, nn] w fun e w' => ∃ r v', e = .returned r ∧ Kept [c] w w' ∧ w'.heap[c]? = some (.cells (cs.setIfInBounds 0 v') 119 (0, 0)) ∧ AccD (dPut ⟨a, d.N, N, d.ds⟩ false D) w' v' := by
  obtain ⟨l, h1, h2⟩ := hv
  obtain ⟨nv, bv, cu, q1, q2, q3, q4⟩ := h2.find hd
  refine (setBalance_any c 119 cs va nn N l a w hr h0 h1 ha hsa hN nv d.N (by rw [q1]; rfl) q2 hN0 (by rw [h2.len]; exact hll) (by decide)).mono ?_
  rintro e w' ⟨r, v', rfl, K, k1, k2⟩
  refine ⟨r, v', rfl, K, k1, _, k2, ?_⟩
  have hX := hard1 hr (.inl rfl) hnb
  have hq : AcD w ((acFind l a).put 1 nn) ⟨a, d.N, N, d.ds⟩ := by
    rw [q1]
    exact ⟨rfl, nv, nn, cu, rfl, q2, hN, q4⟩
  exact (h2.put hq false).keptN K hX
theorem setNonce_D (c : Nat) (cs : Array Value) (va nn : Value) (N : Nat) (D : List AD) (d : AD) (a : List Nat) (w : World) (hr : w.heap[c]? = some (.cells cs 119 (0, 0))) (hnb : ∀ t l, Obj.cells cs 119 (0, 0) ≠ R8 t l) (h0 : cs[0]? = some va) (hv : AccD D w va) (ha : a.length = 20) (hsa : Small a) (hN : NumV w nn N) (hd : D.find? (fun x => x.adr == a) = some d) (hN0 : N ≠ 0) (hll : D.length ≤ 400) :
    Calls Salg.prog 91 #[.pointer (some ⟨c, 0, none⟩), A8 a, nn] w fun e w' => ∃ r v', e = .returned r ∧ Kept [c] w w' ∧ w'.heap[c]? = some (.cells (cs.setIfInBounds 0 v') 119 (0, 0)) ∧ AccD (dPut ⟨a, N, d.B, d.ds⟩ false D) w' v' := by
  obtain ⟨l, h1, h2⟩ := hv
  obtain ⟨nv, bv, cu, q1, q2, q3, q4⟩ := h2.find hd
  refine (setNonce_any c 119 cs va nn N l a w hr h0 h1 ha hsa hN hN0 (by rw [h2.len]; exact hll) (by decide)).mono ?_
  rintro e w' ⟨r, v', rfl, K, k1, k2⟩
  refine ⟨r, v', rfl, K, k1, _, k2, ?_⟩
  have hX := hard1 hr (.inl rfl) hnb
  have hq : AcD w ((acFind l a).put 0 nn) ⟨a, N, d.B, d.ds⟩ := by
    rw [q1]
    exact ⟨rfl, nn, bv, cu, rfl, hN, q3, q4⟩
  exact (h2.put hq false).keptN K hX
theorem clone_D (c : Nat) (E : XEnv) (fr rt : Value) (la lm : List (List Nat)) (D : List AD) (w : World) (hC : ChY w c E fr rt la) (hv : AccD D w E.vz) (h0 : 0 < D.length) (hll : D.length ≤ 20) (hl0 : 0 < la.length) (hl : la.length ≤ 20) (hmd : E.md = nilS ∨ (AdsV w E.md lm ∧ 0 < lm.length ∧ lm.length ≤ 20)) :
    Calls Salg.prog 171 #[.pointer (some ⟨c, 0, none⟩)] w fun e w' => ∃ a0 a1 a3 a6 : Value, e = .returned (.agg (wrow5 a0 a1 a3 a6).toArray) ∧ a0.oneCell' = true ∧ a1.oneCell' = true ∧ a3.oneCell' = true ∧ a6.oneCell' = true ∧ Kept [] w w' := by
  obtain ⟨wz, c1, c2⟩ := hC
  obtain ⟨l, h1, h2⟩ := hv
  exact clone_weak c 119 _ E.vz wz E.md l la lm w c1 (chN_get _ _ _ _ (by decide)) (chN_get _ _ _ _ (by decide)) (chN_get _ _ _ _ (by decide)) (chN_get _ _ _ _ (by decide)) (chN_get _ _ _ _ (by decide)) (chN_get _ _ _ _ (by decide)) (chN_get _ _ _ _ (by decide)) (chN_get _ _ _ _ (by decide)) h1 (by rw [h2.len]; exact h0) (by rw [h2.len]; exact hll) h2.all c2 hl0 hl hmd
end Go.Proofs.YgcsalGreat

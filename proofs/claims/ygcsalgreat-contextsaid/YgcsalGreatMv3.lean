/-
  A slice against nil; the walks of yp.bytesOf, yp.natOf, law.copyBytes, yp.wordsOf of nil.
-/
import Derived.Test.YgcsalGreatMv2
set_option linter.unusedSimpArgs false
set_option linter.unusedVariables false
namespace Go.Own
section
variable {P : Program}
theorem eqIn_nilS (w : World) (d : Nat) (t e : TypeId) (p : Option Addr) (n c : Nat) (h : P.underlying t = some (.slice e)) : (Op.equalIn (d + 1) t (.slice p n c) (.slice none 0 0)).run P w = .ok p.isNone w := by
  cases p <;> simp [Op.equalIn, run_underlying h]
theorem eq_nilS (w : World) (t e : TypeId) (p : Option Addr) (n c : Nat) (h : P.underlying t = some (.slice e)) : (Op.equal t (.slice p n c) (.slice none 0 0)).run P w = .ok p.isNone w := eqIn_nilS w 9999 t e p n c h
theorem eql_nilS (w : World) (t e : TypeId) (p : Option Addr) (n c : Nat) (h : P.underlying t = some (.slice e)) : (binOp .eql t (.slice p n c) (.slice none 0 0)).run P w = .ok (.bool p.isNone) w := by
  simp [binOp, eq_nilS w t e p n c h]
theorem neq_nilS (w : World) (t e : TypeId) (p : Option Addr) (n c : Nat) (h : P.underlying t = some (.slice e)) : (binOp .neq t (.slice p n c) (.slice none 0 0)).run P w = .ok (.bool (!p.isNone)) w := by
  simp [binOp, eq_nilS w t e p n c h]
theorem run_isnil {a : Act} {w : World} {dst : Option Tmp} {x y : Operand} {t e ty ty' : TypeId} {p : Option Addr} {n c : Nat} {pos : String} {after : Array Edge} {g : Option (Nat × Bool)} (hx : a.eval x = .slice p n c) (hy : a.eval y = .slice none 0 0)
    (hu : P.underlying t = some (.slice e)) (hgt : P.eqGuardType P.depth t = false) :
    (execOp a.eval { dst := dst, op := .binOp .eql t x y ty, type := ty', pos := pos, after := after, guard := g }).run P w = .ok (.value (.bool p.isNone)) w := by
  have hg : (eqGuard .eql t x y (.slice p n c) (.slice none 0 0)).run P w = .ok () w := by simp [eqGuard, Go.program, Sem.run, hgt]
  simp [execOp, hx, hy, eql_nilS w t e p n c hu, hg]
theorem run_nonnil {a : Act} {w : World} {dst : Option Tmp} {x y : Operand} {t e ty ty' : TypeId} {p : Option Addr} {n c : Nat} {pos : String} {after : Array Edge} {g : Option (Nat × Bool)} (hx : a.eval x = .slice p n c) (hy : a.eval y = .slice none 0 0)
    (hu : P.underlying t = some (.slice e)) (hgt : P.eqGuardType P.depth t = false) :
    (execOp a.eval { dst := dst, op := .binOp .neq t x y ty, type := ty', pos := pos, after := after, guard := g }).run P w = .ok (.value (.bool (!p.isNone))) w := by
  have hg : (eqGuard .neq t x y (.slice p n c) (.slice none 0 0)).run P w = .ok () w := by simp [eqGuard, Go.program, Sem.run, hgt]
  simp [execOp, hx, hy, neq_nilS w t e p n c hu, hg]
end
end Go.Own
namespace Go.Proofs.YgcsalGreat
open Go.RowKit Go.Own
theorem guard40 : Salg.prog.eqGuardType Salg.prog.depth 40 = false := by kernel_rfl
theorem guard54 : Salg.prog.eqGuardType Salg.prog.depth 54 = false := by kernel_rfl

set_option maxHeartbeats 2000000 in
set_option maxRecDepth 100000 in
theorem bytesOf_some (v : Value) (ds : List Nat) (w : World) (hv : NatV w v ds) (h0 : ds ≠ []) : Calls Salg.prog 96 #[v] w fun e w' => ∃ u, e = .returned u ∧ NatV w' u ds ∧ Kept [] w w' := by
  obtain ⟨p, c, rfl, hc, hc', hd, hs⟩ := hv
  have M := Mem.start w []
  have hpos : 0 < ds.length := List.length_pos_iff.2 h0
  obtain ⟨b, t, cs, rfl, hr, hpre⟩ := hd.at (i := 0) hpos
  have HP := hid hpre
  have HS := hid hs
  have hcl := hpre.length_le
  clear hpre hs hd h0
  obtain ⟨n, hn⟩ : ∃ n, n = ds.length := ⟨_, rfl⟩
  rw [← hn] at hpos hc hcl ⊢
  have HN := hid hn
  clear hn
  go_enter Salg.func96, Salg.ntmps96
  go_wp2_with (first
    | ((with_reducible apply L_run); rfl; exact run_isnil rfl rfl Salg.underlying40 guard40; (try simp only [Option.isNone_none, Option.isNone_some]); simp only [Act.put, List.setIfInBounds_toArray, List.set_cons_zero, List.set_cons_succ])
    | ((with_reducible apply W_make8 (n := n) M); rfl; rfl; rfl; rfl; omega; exact Salg.underlying40; exact info5; clear M; intro b1 w2 hb1 M; simp only [Act.put, List.setIfInBounds_toArray, List.set_cons_zero, List.set_cons_succ])
    | ((with_reducible apply W_copyMap0 (f := n8) (fun _ => rfl)); rfl; rfl; exact Salg.underlying40; exact size5; exact M; exact Or.inr hb1; exact M.kept.row hr (by simp); (simp <;> omega); (simp <;> omega); clear M; intro w3 M; simp only [Act.put, List.setIfInBounds_toArray, List.set_cons_zero, List.set_cons_succ]))
  go_ret
  refine ⟨_, rfl, ?_, M.kept⟩
  have e1 : cs.take (min n n) ++ (List.replicate n 0).drop (min n n) = ds := by
    rw [Nat.min_self, List.drop_of_length_le (by simp), List.append_nil, HN.out]
    exact (List.prefix_iff_eq_take.1 HP.out).symm
  rw [e1] at M
  have := NatV.row M.r0 HS.out (by rw [← HN.out]; omega)
  rw [← HN.out] at this
  exact this

set_option maxHeartbeats 2000000 in
set_option maxRecDepth 100000 in
theorem bytesOf_nil (w : World) : Calls Salg.prog 96 #[.slice none 0 0] w fun e w' => e = .returned (.slice none 0 0) ∧ w' = w := by
  go_enter Salg.func96, Salg.ntmps96
  go_wp2_with ((with_reducible apply L_run); rfl; exact run_isnil rfl rfl Salg.underlying40 guard40; (try simp only [Option.isNone_none, Option.isNone_some]); simp only [Act.put, List.setIfInBounds_toArray, List.set_cons_zero, List.set_cons_succ])
  go_ret
  exact ⟨rfl, rfl⟩

set_option maxHeartbeats 2000000 in
set_option maxRecDepth 100000 in
theorem copyBytes_some (v : Value) (ds : List Nat) (w : World) (hv : NatV w v ds) (h0 : ds ≠ []) : Calls Salg.prog 23 #[v] w fun e w' => ∃ u, e = .returned u ∧ NatV w' u ds ∧ Kept [] w w' := by
  obtain ⟨p, c, rfl, hc, hc', hd, hs⟩ := hv
  have M := Mem.start w []
  have hpos : 0 < ds.length := List.length_pos_iff.2 h0
  obtain ⟨b, t, cs, rfl, hr, hpre⟩ := hd.at (i := 0) hpos
  have HP := hid hpre
  have HS := hid hs
  have hcl := hpre.length_le
  clear hpre hs hd h0
  obtain ⟨n, hn⟩ : ∃ n, n = ds.length := ⟨_, rfl⟩
  rw [← hn] at hpos hc hcl ⊢
  have HN := hid hn
  clear hn
  go_enter Salg.func23, Salg.ntmps23
  go_wp2_with (first
    | ((with_reducible apply L_run); rfl; exact run_isnil rfl rfl Salg.underlying40 guard40; (try simp only [Option.isNone_none, Option.isNone_some]); simp only [Act.put, List.setIfInBounds_toArray, List.set_cons_zero, List.set_cons_succ])
    | ((with_reducible apply W_make8 (n := n) M); rfl; rfl; rfl; rfl; omega; exact Salg.underlying40; exact info5; clear M; intro b1 w2 hb1 M; simp only [Act.put, List.setIfInBounds_toArray, List.set_cons_zero, List.set_cons_succ])
    | ((with_reducible apply W_copyMap0 (f := n8) (fun _ => rfl)); rfl; rfl; exact Salg.underlying40; exact size5; exact M; exact Or.inr hb1; exact M.kept.row hr (by simp); (simp <;> omega); (simp <;> omega); clear M; intro w3 M; simp only [Act.put, List.setIfInBounds_toArray, List.set_cons_zero, List.set_cons_succ]))
  go_ret
  refine ⟨_, rfl, ?_, M.kept⟩
  have e1 : cs.take (min n n) ++ (List.replicate n 0).drop (min n n) = ds := by
    rw [Nat.min_self, List.drop_of_length_le (by simp), List.append_nil, HN.out]
    exact (List.prefix_iff_eq_take.1 HP.out).symm
  rw [e1] at M
  have := NatV.row M.r0 HS.out (by rw [← HN.out]; omega)
  rw [← HN.out] at this
  exact this

set_option maxHeartbeats 2000000 in
set_option maxRecDepth 100000 in
theorem copyBytes_nil (w : World) : Calls Salg.prog 23 #[.slice none 0 0] w fun e w' => e = .returned (.slice none 0 0) ∧ w' = w := by
  go_enter Salg.func23, Salg.ntmps23
  go_wp2_with ((with_reducible apply L_run); rfl; exact run_isnil rfl rfl Salg.underlying40 guard40; (try simp only [Option.isNone_none, Option.isNone_some]); simp only [Act.put, List.setIfInBounds_toArray, List.set_cons_zero, List.set_cons_succ])
  go_ret
  exact ⟨rfl, rfl⟩

set_option maxHeartbeats 2000000 in
set_option maxRecDepth 100000 in
theorem wordsOf_nil (w : World) : Calls Salg.prog 161 #[.slice none 0 0] w fun e w' => e = .returned (.slice none 0 0) ∧ w' = w := by
  go_enter Salg.func161, Salg.ntmps161
  go_wp2_with ((with_reducible apply L_run); rfl; exact run_isnil rfl rfl Salg.underlying54 guard54; (try simp only [Option.isNone_none, Option.isNone_some]); simp only [Act.put, List.setIfInBounds_toArray, List.set_cons_zero, List.set_cons_succ])
  go_ret
  exact ⟨rfl, rfl⟩

set_option maxHeartbeats 2000000 in
set_option maxRecDepth 100000 in
theorem natOf_any (v : Value) (m : Nat) (w : World) (hv : NumV w v m) (h0 : m ≠ 0 ∨ v = .slice none 0 0) : Calls Salg.prog 210 #[v] w fun e w' => ∃ u, e = .returned u ∧ NumV w' u m ∧ Kept [] w w' := by
  have M := Mem.start w []
  have HC : Hid (Calls Salg.prog 96 #[v] w fun e w' => ∃ u, e = .returned u ∧ NumV w' u m ∧ Kept [] w w') := by
    by_cases hm : v = .slice none 0 0
    · subst hm
      refine (bytesOf_nil w).mono ?_
      rintro e w' ⟨rfl, rfl⟩
      exact ⟨_, rfl, hv, Kept.refl _ _⟩
    · obtain ⟨ds, h1, h2, h3⟩ := hv
      have hne : ds ≠ [] := by
        rintro rfl
        rcases h0 with h | h
        · exact h h3.symm
        · exact hm h
      refine (bytesOf_some v ds w h1 hne).mono ?_
      rintro e w' ⟨u, rfl, h4, K⟩
      exact ⟨_, rfl, ⟨ds, h4, h2, h3⟩, K⟩
  clear hv h0
  go_enter Salg.func210, Salg.ntmps210
  go_wp2_with fail
  refine HC.out.mono ?_
  rintro e w2 ⟨u, rfl, hu, K⟩
  go_wp2_with fail
  go_ret
  exact ⟨_, rfl, hu, K⟩
end Go.Proofs.YgcsalGreat

/-
  law.DivMidRight: the walks of wordNat, midByNat, divMidHolds, DivMidRight.
-/
import Derived.Test.YgcsalGreatDivMid
set_option linter.unusedSimpArgs false
namespace Go.Own
theorem NumV.nat {w : World} {v : Value} {n : Nat} (h : NumV w v n) : ∃ ds, NatV w v ds ∧ val ds = n := by obtain ⟨ds, h1, _, h3⟩ := h; exact ⟨ds, h1, h3⟩
theorem LimbV.row {w : World} {b t : Nat} {cs : List Nat} (h : w.heap[b]? = some (R64 t cs)) (hL : Limbs cs) (o n c : Nat) (hle : o + n ≤ cs.length) (hn : n ≤ 1000) : LimbV w (.slice (some ⟨b, o, none⟩) n c) ((cs.drop o).take n) := by
  have hl : ((cs.drop o).take n).length = n := by simp; omega
  refine ⟨b, o, c, t, cs, by rw [hl], by omega, h, ?_, (hL.drop o).take n⟩
  intro i x hx
  have hi : i < n := by have := (List.getElem?_eq_some_iff.1 hx).1; omega
  rw [List.getElem?_take_of_lt hi, List.getElem?_drop] at hx
  exact hx
theorem limbs4_limbs (cs : List Nat) (h : Small cs) : Limbs (limbs4 cs) := by
  have hlt : ∀ o, be ((cs.drop o).take 8) < 18446744073709551616 := fun o =>
    Nat.lt_of_lt_of_le (be_lt _ (fun c hc => h c (List.mem_of_mem_drop (List.mem_of_mem_take hc)))) (by
      rw [List.length_take]; exact Nat.pow_le_pow_right (n := 256) (j := 8) (by decide) (by omega))
  intro x hx
  simp only [limbs4, List.mem_cons, List.not_mem_nil, or_false] at hx
  rcases hx with rfl | rfl | rfl | rfl <;> exact hlt _
end Go.Own
namespace Go.Proofs.YgcsalGreat
open Go.RowKit Go.Own
/-- Cmp, of numbers. -/
theorem cmp_num (v u : Value) (m n : Nat) (w : World) (hv : NumV w v m) (hu : NumV w u n) : Calls Salg.prog 72 #[v, u] w fun e w' => e = .returned (.int .i8 (cmpI m n)) ∧ Kept [] w w' := by
  obtain ⟨ds, h1, rfl⟩ := hv.nat
  obtain ⟨es, h2, rfl⟩ := hu.nat
  exact cmp_any v u ds es w h1 h2
theorem pow2_int (k : Int) (h0 : 0 ≤ k) (hk : k < 65536) (w : World) :
    Calls Salg.prog 74 #[.int .u16 k] w fun e w' => ∃ u, e = .returned u ∧ NumV w' u (2 ^ k.toNat) ∧ Kept [] w w' := by
  obtain ⟨n, rfl⟩ := Int.eq_ofNat_of_zero_le h0
  rw [Int.toNat_natCast]
  exact pow2_any n (by omega) w

set_option maxHeartbeats 1000000 in
set_option maxRecDepth 100000 in
theorem wordNat_any (vs : List Nat) (w : World) (hv : vs.length = 4) (hlv : Limbs vs) :
    Calls Salg.prog 153 #[A64 vs] w fun e w' => ∃ u, e = .returned u ∧ NumV w' u (lval vs) ∧ Kept [] w w' := by
  have M := Mem.start w []
  go_enter Salg.func153, Salg.ntmps153
  go_wp2_with ((with_reducible apply L_box M); rfl; clear M; intro b1 w1 hb1 M; simp only [Act.put, List.setIfInBounds_toArray, List.set_cons_zero, List.set_cons_succ])
  refine (limbsNat_any _ vs _ (by have := LimbV.row M.r0 hlv 0 4 4 (by omega) (by omega); rw [List.drop_zero, ← hv, List.take_length] at this; rw [hv] at this; exact this)).mono ?_
  rintro e w3 ⟨u, rfl, hu, K⟩
  have HU := hid hu
  replace M := M.call K
  clear hu K
  go_wp2_with fail
  go_ret
  exact ⟨_, rfl, HU.out, M.kept⟩

end Go.Proofs.YgcsalGreat

/-
  law.NormShift: the walks of shiftHolds, NormShift.
-/
import Derived.Test.YgcsalGreatNat3
import Derived.Test.YgcsalGreatDivMidRight
import Derived.Test.YgcsalGreatShift
set_option linter.unusedSimpArgs false
namespace Go.Own
theorem Tight.short {ds : List Nat} (h : Tight ds) {k : Nat} (hv : val ds < 256 ^ k) : ds.length ≤ k := by
  rcases Nat.lt_or_ge k ds.length with hk | hk
  · exfalso
    have h1 := h.ge (by intro h0; rw [h0] at hk; simp at hk)
    have h2 : 256 ^ k ≤ 256 ^ (ds.length - 1) := Nat.pow_le_pow_right (by decide) (by omega)
    omega
  · exact hk
theorem pow_lt_256 {m k : Nat} (h : m < 8 * k) : 2 ^ m < 256 ^ k := by rw [show (256 : Nat) = 2 ^ 8 from rfl, ← Nat.pow_mul]; exact Nat.pow_lt_pow_right (by decide) h
theorem cmpI_self (m : Nat) : cmpI m m = 0 := by simp [cmpI]
theorem NumV.short {w : World} {v : Value} {n : Nat} (h : NumV w v n) {k : Nat} (hn : n < 256 ^ k) : ∃ ds, NatV w v ds ∧ val ds = n ∧ ds.length ≤ k := by
  obtain ⟨ds, h1, h2, h3⟩ := h; exact ⟨ds, h1, h3, h2.short (by omega)⟩
end Go.Own
namespace Go.Proofs.YgcsalGreat
open Go.RowKit Go.Own
theorem mul_num (v u : Value) (m n : Nat) (w : World) (hv : NumV w v m) (hu : NumV w u n) (hm : m < 256 ^ 200) (hn : n < 256 ^ 200) :
    Calls Salg.prog 70 #[v, u] w fun e w' => ∃ r, e = .returned r ∧ NumV w' r (m * n) ∧ Kept [] w w' := by
  obtain ⟨ds, h1, rfl, h2⟩ := hv.short hm
  obtain ⟨es, h3, rfl, h4⟩ := hu.short hn
  exact mul_any v u ds es w h1 h3 (by omega) (by omega)
theorem divMod_num (v u : Value) (m n : Nat) (w : World) (hv : NumV w v m) (hu : NumV w u n) (hm : m < 256 ^ 200) (hn : n < 256 ^ 200) (h0 : n ≠ 0) :
    Calls Salg.prog 142 #[v, u] w fun e w' => ∃ r s, e = .returned (.tuple #[r, s, .bool true]) ∧ NumV w' r (m / n) ∧ NumV w' s (m % n) ∧ Kept [] w w' := by
  obtain ⟨ds, h1, rfl, h2⟩ := hv.short hm
  obtain ⟨es, h3, rfl, h4⟩ := hu.short hn
  exact divMod_any v u ds es w h1 h3 (by omega) (by omega) h0

end Go.Proofs.YgcsalGreat

/-
  The walks of yp.wrapped, yp.truth.
-/
import Derived.Test.YgcsalGreatYp2
set_option linter.unusedSimpArgs false
namespace Go.Proofs.YgcsalGreat
open Go.RowKit Go.Own

set_option maxHeartbeats 2000000 in
set_option maxRecDepth 100000 in
theorem wrapped_any (v : Value) (N : Nat) (w : World) (hN : NumV w v N) : Calls Salg.prog 140 #[v] w fun e w' => ∃ u, e = .returned u ∧ NumV w' u (N % 2 ^ 256) ∧ Kept [] w w' := by
  obtain ⟨ds, ⟨p, c, rfl, hc, hc', hd, hs⟩, ht, rfl⟩ := hN
  have hv : val (ds.take 32) = val ds % 2 ^ 256 := by
    rcases Nat.lt_or_ge ds.length 32 with h | h
    · rw [List.take_of_length_le (by omega), Nat.mod_eq_of_lt]
      exact Nat.lt_of_lt_of_le (val_lt hs) (Nat.le_trans (Nat.pow_le_pow_right (by decide) (show ds.length ≤ 32 by omega)) (by decide))
    · have e := val_split (ds := ds) (k := 32) h
      have hl := val_lt (hs.take 32)
      rw [List.length_take, Nat.min_eq_left h] at hl
      rw [e, show (2 : Nat) ^ 256 = 256 ^ 32 from by decide, Nat.add_mul_mod_self_left, Nat.mod_eq_of_lt hl]
  have hlen : (ds.take 32).length = min ds.length 32 := by rw [List.length_take, Nat.min_comm]
  have HNO : Hid (Calls Salg.prog 158 #[.slice p (ds.take 32).length c] w fun e w' => ∃ u, e = .returned u ∧ NumV w' u (val (ds.take 32)) ∧ Kept [] w w') :=
    (norm_any (.slice p (ds.take 32).length c) (ds.take 32) w ⟨p, c, rfl, by omega, hc', hd.take 32, hs.take 32⟩).mono (fun e w' ⟨u, he, h, K⟩ => ⟨u, he, ⟨tr _, h, tight_tl _ _ (Nat.le_refl _), tr_val _⟩, K⟩)
  rw [hv, hlen] at HNO
  clear hv hlen ht hs hd
  generalize ds.length = n at *
  rcases Nat.lt_or_ge 32 n with h | h
  · rw [Nat.min_eq_right (by omega)] at HNO
    go_enter Salg.func140, Salg.ntmps140
    go_wp2_with fail
    all_goals first
      | (refine HNO.out.mono ?_
         rintro e w2 ⟨u, rfl, hu, K⟩
         go_wp2_with fail
         go_ret
         exact ⟨_, rfl, hu, K⟩)
      | (exfalso; omega)
  · rw [Nat.min_eq_left h] at HNO
    go_enter Salg.func140, Salg.ntmps140
    go_wp2_with fail
    all_goals first
      | (refine HNO.out.mono ?_
         rintro e w2 ⟨u, rfl, hu, K⟩
         go_wp2_with fail
         go_ret
         exact ⟨_, rfl, hu, K⟩)
      | (exfalso; omega)
end Go.Proofs.YgcsalGreat

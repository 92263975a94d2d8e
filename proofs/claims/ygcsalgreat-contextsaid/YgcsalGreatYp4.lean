/-
  The walks of yp.negated, yp.withSign, yp.magnitude.
-/
import Derived.Test.YgcsalGreatYp3
set_option linter.unusedSimpArgs false
namespace Go.Proofs.YgcsalGreat
open Go.RowKit Go.Own

theorem norm_num (v : Value) (N : Nat) (w : World) (hN : NumV w v N) : Calls Salg.prog 158 #[v] w fun e w' => ∃ u, e = .returned u ∧ NumV w' u N ∧ Kept [] w w' := by
  obtain ⟨ds, h1, h2, rfl⟩ := hN
  exact (norm_any v ds w h1).mono (fun e w' ⟨u, he, h, K⟩ => ⟨u, he, ⟨tr _, h, tight_tl _ _ (Nat.le_refl _), tr_val _⟩, K⟩)

set_option maxHeartbeats 2000000 in
set_option maxRecDepth 100000 in
theorem negated_any (v : Value) (N : Nat) (w : World) (hN : NumV w v N) (hb : N ≤ 2 ^ 256) : Calls Salg.prog 141 #[v] w fun e w' => ∃ u, e = .returned u ∧ NumV w' u ((2 ^ 256 - N) % 2 ^ 256) ∧ Kept [] w w' := by
  have M := Mem.start w []
  have HN := hid hN
  clear hN
  go_enter Salg.func141, Salg.ntmps141
  go_wp2_with fail
  refine (pow2_int 256 (by decide) (by decide) _).mono ?_
  rintro e w2 ⟨P1, rfl, xHP1, K⟩
  have HP1 := hid xHP1
  replace HN := hid (HN.out.kept K)
  replace M := M.call K
  clear K xHP1
  go_wp2_with fail
  refine (sub_num _ _ _ _ _ HP1.out HN.out (by decide) hb).mono ?_
  rintro e w3 ⟨R1, rfl, xHR1, K⟩
  have HR1 := hid xHR1
  replace M := M.call K
  clear K xHR1
  have HR : Hid (NumV w3 R1 (2 ^ 256 - N)) := HR1.out
  clear HR1 HP1 HN
  go_wp2_with fail
  refine (wrapped_any _ _ _ HR.out).mono ?_
  rintro e w4 ⟨U1, rfl, xHU1, K⟩
  have HU1 := hid xHU1
  replace M := M.call K
  clear K xHU1
  go_wp2_with fail
  go_ret
  exact ⟨_, rfl, HU1.out, M.kept⟩

set_option maxHeartbeats 2000000 in
set_option maxRecDepth 100000 in
theorem withSign_any (v : Value) (N : Nat) (t : Bool) (w : World) (hN : NumV w v N) (hb : N ≤ 2 ^ 256) : Calls Salg.prog 144 #[v, .bool t] w fun e w' => ∃ u, e = .returned u ∧ NumV w' u (if t then (2 ^ 256 - N) % 2 ^ 256 else N) ∧ Kept [] w w' := by
  cases t with
  | false =>
    have HC := hid (norm_num v N w hN)
    simp only [Bool.false_eq_true, if_false]
    clear hN hb
    go_enter Salg.func144, Salg.ntmps144
    go_wp2_with fail
    refine HC.out.mono ?_
    rintro e w2 ⟨u, rfl, hu, K⟩
    go_wp2_with fail
    go_ret
    exact ⟨_, rfl, hu, K⟩
  | true =>
    have HC := hid (negated_any v N w hN hb)
    simp only [if_true]
    clear hN hb
    go_enter Salg.func144, Salg.ntmps144
    go_wp2_with fail
    refine HC.out.mono ?_
    rintro e w2 ⟨u, rfl, hu, K⟩
    go_wp2_with fail
    go_ret
    exact ⟨_, rfl, hu, K⟩
end Go.Proofs.YgcsalGreat

/-
  law.pathByRounds and nat.DivMod, all cases.
-/
import Derived.Test.YgcsalPathLong
import Derived.Test.YgcsalFromBE
import Derived.Test.YgcsalIsNat
set_option linter.unusedSimpArgs false
namespace Go.Proofs.Ygcsal
open Go.RowKit Go.Own

theorem path_any (v u : Value) (X V : Nat) (w : World) (hX : NumV w v X) (hV : NumV w u V) (hXl : X < 18446744073709551616 ^ 8) (hVl : V < 18446744073709551616 ^ 4) :
    Calls Salg.prog 44 #[v, u] w fun e w' => e = .returned (A8 (pathL X V)) ∧ Kept [] w w' := by
  have hn4 := nlb_le hVl
  have hL8 := nlb_le hXl
  by_cases hno : nlb V = 0 ∨ nlb X < nlb V
  · have e2 : pathL X V = [0, 0, 0] := by simp [pathL, pathN, hno]
    rw [e2]
    obtain ⟨ds, ⟨p, c, rfl, hc, hc', _, hs⟩, ht, hdX⟩ := hX
    obtain ⟨es, ⟨q, ec, rfl, hec, hec', _, hes⟩, het, heV⟩ := hV
    have h1 := nlb_digs hs ht
    have h2 := nlb_digs hes het
    rw [hdX] at h1
    rw [heV] at h2
    exact path_none p q _ c _ ec (nlb X) (nlb V) w (by omega) (by omega) (by omega) (by omega) hno
  · by_cases h1 : nlb V = 1
    · have e2 : pathL X V = [nlb X, 0, 0] := by
        simp only [pathL, pathN]; rw [if_neg hno, if_pos h1, h1]; simp; omega
      rw [e2]
      obtain ⟨ds, ⟨p, c, rfl, hc, hc', _, hs⟩, ht, hdX⟩ := hX
      obtain ⟨es, ⟨q, ec, rfl, hec, hec', _, hes⟩, het, heV⟩ := hV
      have h3 := nlb_digs hs ht
      have h4 := nlb_digs hes het
      rw [hdX] at h3
      rw [heV] at h4
      exact path_one p q _ c _ ec (nlb X) w (by omega) (by omega) (by omega) (by omega) (by omega) hL8
    · have e2 : pathL X V = [nlb X - nlb V + 1, (runs (nl 4 (V * 2 ^ (64 * nlb V - blen V))) (nlb V) (nlb X - nlb V + 1) (nl 9 (X * 2 ^ (64 * nlb V - blen V)))).1,
          (runs (nl 4 (V * 2 ^ (64 * nlb V - blen V))) (nlb V) (nlb X - nlb V + 1) (nl 9 (X * 2 ^ (64 * nlb V - blen V)))).2] := by
        simp only [pathL, pathN]; rw [if_neg hno, if_neg h1]
      rw [e2]
      exact path_long v u X V w hX hV hXl hVl (by omega) (by omega)

set_option maxHeartbeats 1000000 in
set_option maxRecDepth 100000 in
theorem divMod_zeroN (v u : Value) (m : Nat) (w : World) (hv : NumV w v m) (hu : NumV w u 0) :
    Calls Salg.prog 33 #[v, u] w fun e w' => e = .returned (.tuple #[.slice none 0 0, .slice none 0 0, .bool false]) ∧ Kept [] w w' := by
  obtain ⟨ds, ⟨p, c, rfl, hc, hc', hd, hs⟩, ht, hdX⟩ := hv
  obtain ⟨es, ⟨q, ec, rfl, hec, hec', hed, hes⟩, het, heV⟩ := hu
  obtain rfl := het.zero heV
  have HTRIM := hid (trim_any p c ds w hc hc' hd)
  have HTRIM' := hid (trim_any q ec [] w hec hec' hed)
  clear hdX heV ht het
  have hl1 := tl_le ds ds.length
  generalize tl ds ds.length = k at *
  go_enter Salg.func33, Salg.ntmps33
  go_wp2_with fail
  refine HTRIM.out.mono ?_
  rintro e w1 ⟨rfl, rfl⟩
  go_wp2_with fail
  refine HTRIM'.out.mono ?_
  rintro e w1 ⟨rfl, rfl⟩
  go_wp2_with fail
  go_ret3
  exact ⟨rfl, Kept.refl _ _⟩

theorem nil_num (w : World) : NumV w (.slice none 0 0) 0 := ⟨[], NatV.nil _, by intro x hx; simp at hx, rfl⟩

theorem divMod_all (v u : Value) (m n : Nat) (w : World) (hv : NumV w v m) (hu : NumV w u n) (hm : m < 256 ^ 200) (hn : n < 256 ^ 200) :
    Calls Salg.prog 33 #[v, u] w fun e w' => ∃ r s b, e = .returned (.tuple #[r, s, .bool b]) ∧ NumV w' r (m / n) ∧ NumV w' s (remN m n) ∧ Kept [] w w' := by
  by_cases h0 : n = 0
  · subst h0
    refine (divMod_zeroN v u m w hv hu).mono ?_
    rintro e w' ⟨rfl, K⟩
    exact ⟨_, _, _, rfl, by rw [Nat.div_zero]; exact nil_num _, by simp only [remN, if_true]; exact nil_num _, K⟩
  · refine (divMod_num v u m n w hv hu hm hn h0).mono ?_
    rintro e w' ⟨r, s, rfl, h1, h2, K⟩
    exact ⟨_, _, _, rfl, h1, by simp only [remN, h0, if_false]; exact h2, K⟩
end Go.Proofs.Ygcsal

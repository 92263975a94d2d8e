/-
  law.Copies on data as it comes in: a slice of bytes at any place.
-/
import Derived.Test.YgcsalGreatCp45
set_option linter.unusedSimpArgs false
set_option linter.unusedVariables false
namespace Go.Proofs.YgcsalGreat
open Go.RowKit Go.Own
theorem cell_some {w : World} {x : Addr} {v : Value} (h : w.cell? x = some v) : ∃ cs t fr, w.heap[x.block]? = some (.cells cs t fr) ∧ x.spot = none ∧ cs[x.off]? = some v := by
  unfold World.cell? at h
  split at h
  · rename_i cs t fr hb
    refine ⟨cs, t, fr, hb, ?_⟩
    cases hs : x.spot with
    | none => rw [hs] at h; exact ⟨rfl, by simpa using h⟩
    | some k => rw [hs] at h; simp at h
  · cases h
theorem dat_of {w : World} {x : Addr} {zs : List Int} (m C : Nat) (hm : m ≤ zs.length) (hcell : ∀ i, i < zs.length → w.cell? (x.add i) = some (.int .u8 (zs.getD i 0))) (hwf : ∀ n ∈ zs, 0 ≤ n ∧ n < 256) :
    ∃ dd : List Nat, dd.length = m ∧ DatV w (.slice (some x) m C) dd := by
  have hlen : ((zs.take m).map Int.toNat).length = m := by rw [List.length_map, List.length_take]; omega
  refine ⟨(zs.take m).map Int.toNat, hlen, ?_, ?_⟩
  · intro y hy
    obtain ⟨z, hz, rfl⟩ := List.mem_map.1 hy
    have := hwf z (List.mem_of_mem_take hz)
    omega
  · rcases Nat.eq_zero_or_pos m with h0 | h0
    · subst h0
      exact .inl ⟨by simp, some x, C, rfl, fun h => by cases h⟩
    · obtain ⟨cs, t, fr, hb, hs, hc⟩ := cell_some (hcell 0 (by omega))
      have e0 : x.add 0 = x := by simp [Addr.add]
      rw [e0] at hb hs hc
      obtain ⟨b, o, sp⟩ := x
      simp only at hb hs hc
      subst hs
      refine .inr ⟨by omega, b, o, C, cs, t, fr, by rw [hlen], hb, ?_⟩
      rw [hlen]
      intro i hi
      have hz := hcell i (by omega)
      obtain ⟨cs', t', fr', hb', hs', hc'⟩ := cell_some hz
      have ea : (Addr.add ⟨b, o, none⟩ i) = ⟨b, o + i, none⟩ := by
        unfold Addr.add
        split
        · rename_i h; subst h; rfl
        · rfl
      rw [ea] at hb' hc'
      simp only at hb' hc'
      rw [hb] at hb'
      cases hb'
      rw [hc']
      have hiz : i < zs.length := by omega
      have hg : zs.getD i 0 = zs[i] := by rw [List.getD_eq_getElem?_getD, List.getElem?_eq_getElem hiz]; rfl
      have hb2 := hwf zs[i] (List.getElem_mem hiz)
      have hd : ((zs.take m).map Int.toNat).getD i 0 = zs[i].toNat := by
        rw [List.getD_eq_getElem?_getD, List.getElem?_map, List.getElem?_take, if_pos hi, List.getElem?_eq_getElem hiz]
        rfl
      rw [hg, hd]
      show some (Value.int .u8 zs[i]) = some (Value.int .u8 ((zs[i].toNat : Nat) : Int))
      rw [Int.toNat_of_nonneg hb2.1]
end Go.Proofs.YgcsalGreat

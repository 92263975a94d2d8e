/-
  Opening an argument that is an array of bytes.
-/
import Derived.Test.YgcsalGreatTypes
import Derived.ProofKit
import Derived.OpenShut
import Derived.ChangeOld
import Derived.Below
namespace Go.Own
theorem open_arr8 {P : Program} {w : World} {r : Reach} {base n : Nat} {t e : TypeId} {v : Value} (hu : P.underlying t = some (.array n e)) (hc : P.cellsOf t = n) (hct : P.cellTypes P.depth t = some (List.replicate n e))
    (he : P.underlying e = some (.int .u8)) (h : Value.okWide P w r base t v) : ∃ bs : List Nat, v = A8 bs ∧ bs.length = n ∧ ∀ c ∈ bs, c < 256 := by
  simp only [Value.okWide, hu] at h
  obtain ⟨cs, rfl, hsz, ts, hts, hx, hrow⟩ := h
  clear hx
  rw [hct] at hts
  cases hts
  have hcell : ∀ i (hi : i < cs.size), ∃ m : Nat, m < 256 ∧ cs[i] = .int .u8 (m : Int) := by
    intro i hi
    obtain ⟨u, hu', hok⟩ := hrow i cs[i] (Array.getElem?_eq_getElem hi)
    have hue : u = e := by
      rw [List.getElem?_replicate] at hu'
      split at hu'
      · simpa using hu'.symm
      · cases hu'
    subst hue
    simp only [Cell.okWide, he, Cell.ok] at hok
    generalize cs[i] = x at hok
    cases x with
    | int k z =>
      simp only at hok
      obtain ⟨rfl, hz⟩ := hok
      simp [IntKind.has, IntKind.min, IntKind.max, IntKind.signed, IntKind.bits] at hz
      exact ⟨z.toNat, by omega, by congr; omega⟩
    | _ => simp at hok
  refine ⟨cs.toList.map (fun | .int _ m => m.toNat | _ => 0), ?_, by simp [hsz, hc], ?_⟩
  · congr 1
    apply Array.ext_getElem?
    intro i
    by_cases hi : i < cs.size
    · obtain ⟨m, hm, hv⟩ := hcell i hi
      simp [hi, hv]
    · rw [Array.getElem?_eq_none (by omega), Array.getElem?_eq_none (by simp; omega)]
  · intro c hcm
    simp only [List.mem_map] at hcm
    obtain ⟨x, hx, rfl⟩ := hcm
    obtain ⟨i, hi, rfl⟩ := List.getElem_of_mem hx
    obtain ⟨m, hm, hv⟩ := hcell i (by simpa using hi)
    simp only [Array.length_toList] at hi
    simp [hv, hm]
end Go.Own
namespace Go.Proofs.YgcsalGreat
theorem own : ownKnob Salg.prog.godebug = none := by kernel_rfl
theorem laidOut : laidOutB Salg.prog = true := by kernel_rfl
theorem cells22 : Salg.prog.cellsOf 22 = 32 := by kernel_rfl
theorem types22 : Salg.prog.cellTypes Salg.prog.depth 22 = some (List.replicate 32 5) := by kernel_rfl
end Go.Proofs.YgcsalGreat

/-
  nat.FromBE of bytes that lie somewhere in a row.
-/
import Derived.Test.YgcsalGreatMv3
import Derived.Test.YgcsalGreatFromBE
set_option linter.unusedSimpArgs false
set_option linter.unusedVariables false
namespace Go.Proofs.YgcsalGreat
open Go.RowKit Go.Own

set_option maxHeartbeats 2000000 in
set_option maxRecDepth 100000 in
theorem fromBE_at (b o t cp : Nat) (cs : Array Value) (bs : List Nat) (w : World) (hr : w.heap[b]? = some (.cells cs t (0, 0))) (hcs : ∀ i x, bs[i]? = some x → cs[o + i]? = some (n8 x)) (hl : bs.length ≤ 1000) (hs : Small bs) :
    Calls Salg.prog 64 #[.slice (some ⟨b, o, none⟩) bs.length cp] w fun e w' => ∃ u, e = .returned u ∧ NumV w' u (be bs) ∧ Kept [] w w' := by
  have M := Mem.start w []
  have HS := hid hs
  obtain ⟨n, HN⟩ : ∃ n, Hid (n = bs.length) := ⟨_, rfl⟩
  rw [← HN.out] at hl ⊢
  clear hs
  go_enter Salg.func64, Salg.ntmps64
  go_wp2_with fail
  go_loop [3] (fun iv => ∃ k : Nat, k ≤ n ∧ iv = .int .i64 k ∧ ∀ x ∈ bs.take k, x = 0) (fun iv => n - (intOf iv).toNat)
  case atStart => exact ⟨0, by omega, rfl, by simp⟩
  case round =>
    obtain ⟨k, hk, rfl, hz⟩ := hrel
    have HZ := hid hz
    clear hz
    by_cases hkn : k = n
    · subst hkn
      have HB : Hid (be bs = 0) := by
        have h := HZ.out
        rw [List.take_of_length_le (by have := HN.out; omega)] at h
        exact be_zeros h
      have d1 : decide ((k : Int) < (k : Int)) = false := by simp
      have d2 : decide (k < k) = false := by simp
      have d3 : ((k : Int) == (k : Int)) = true := by simp
      go_wp2_with fail
      go_ret
      exact ⟨_, rfl, by rw [HB.out]; exact ⟨[], NatV.nil _, by intro x hx; simp at hx, rfl⟩, M.kept⟩
    · have hk2 : k < n := by omega
      have hkb : k < bs.length := by have := HN.out; omega
      have hg : bs[k]? = some bs[k] := List.getElem?_eq_getElem (by have := HN.out; omega)
      by_cases h0 : bs[k] = 0
      · rw [h0] at hg
        have HZ2 : Hid (∀ x ∈ bs.take (k + 1), x = 0) := by
          intro x hx
          rw [List.take_succ_eq_append_getElem hkb] at hx
          rcases List.mem_append.1 hx with h | h
          · exact HZ.out x h
          · simp at h; omega
        clear HZ
        go_wp2_with ((with_reducible apply W_loadCellG); rfl; rfl; (first | with_reducible exact M.r0 | with_reducible exact M.r1 | with_reducible exact M.r2 | with_reducible exact M.r3 | with_reducible exact M.r4 | with_reducible exact M.r5 | with_reducible exact M.r6 | assumption | exact M.kept.row (by assumption) (by simp)); (first | exact hcs _ _ (by assumption) | exact get_map (by assumption)); exact Salg.underlying5; rfl; simp only [Act.put, List.setIfInBounds_toArray, List.set_cons_zero, List.set_cons_succ])
        go_round
        case rel => exact ⟨k + 1, by omega, by go_num, HZ2.out⟩
        case measure => simp [intOf]; omega
      · have hne : ((bs[k] : Int) == 0) = false := by rw [beq_eq_false_iff_ne]; omega
        have hkd : ((k : Int) == (n : Int)) = false := by rw [beq_eq_false_iff_ne]; omega
        obtain ⟨m, hkm⟩ : ∃ m, k + m = n := ⟨n - k, by omega⟩
        have HNZ := hid h0
        have HB : Hid (be bs = val (bs.drop k).reverse) := by
          show _ = _
          rw [val_rev]
          conv => lhs; rw [← List.take_append_drop k bs]
          rw [be_app, be_zeros HZ.out, Nat.zero_mul, Nat.zero_add]
        have HTI : Hid (Tight (bs.drop k).reverse) := by
          intro x hx
          rw [List.getLast?_reverse, List.head?_drop, hg] at hx
          simp at hx; omega
        clear HZ h0
        go_wp2_with (first
          | ((with_reducible apply W_loadCellG); rfl; rfl; (first | with_reducible exact M.r0 | with_reducible exact M.r1 | with_reducible exact M.r2 | with_reducible exact M.r3 | with_reducible exact M.r4 | with_reducible exact M.r5 | with_reducible exact M.r6 | assumption | exact M.kept.row (by assumption) (by simp)); (first | exact hcs _ _ (by assumption) | exact get_map (by assumption)); exact Salg.underlying5; rfl; simp only [Act.put, List.setIfInBounds_toArray, List.set_cons_zero, List.set_cons_succ])
          | ((with_reducible apply W_make8 (n := m) M); rfl; rfl; omega; omega; omega; exact Salg.underlying89; exact info5; clear M; intro bo w2 hbo M; simp only [Act.put, List.setIfInBounds_toArray, List.set_cons_zero, List.set_cons_succ]))
        go_loopw [30] (fun iv wr => ∃ (i : Nat) (cur : List Nat), i ≤ m ∧ iv = .int .i64 i ∧ cur.length = m ∧ (∀ j, j < i → cur[j]? = bs[n - 1 - j]?) ∧ Mem w [] [(bo, R8 5 cur)] wr) (fun iv _ => m - (intOf iv).toNat)
        case atStart => exact ⟨0, List.replicate m 0, by omega, rfl, by simp, fun j hj => by omega, M⟩
        case round =>
          clear M
          obtain ⟨i, cur, hi, rfl, hcl, hcz, M⟩ := hrel
          have HC := hid hcz
          clear hcz
          by_cases him : i = m
          · subst him
            have HE : Hid (cur = (bs.drop k).reverse) := by
              have hnb := HN.out
              apply List.ext_getElem?
              intro j
              rcases Nat.lt_or_ge j i with h | h
              · rw [HC.out j h, List.getElem?_reverse (by simp; omega), List.getElem?_drop]
                congr 1
                simp; omega
              · rw [List.getElem?_eq_none (by omega), List.getElem?_eq_none (by simp; omega)]
            have HSR : Hid (Small (bs.drop k).reverse) := fun x hx => HS.out x (List.mem_of_mem_drop (by simpa using hx))
            have d1 : decide ((i : Int) < (i : Int)) = false := by simp
            have d2 : decide (i < i) = false := by simp
            go_wp2_with fail
            go_ret
            refine ⟨_, rfl, ?_, M.kept⟩
            rw [HB.out]
            have h := M.r0
            rw [HE.out] at h
            refine ⟨_, ?_, HTI.out, rfl⟩
            have h2 := NatV.row h HSR.out (by rw [← HE.out]; omega)
            rw [← HE.out, hcl] at h2
            rw [← HE.out]
            exact h2
          · have him2 : i < m := by omega
            have hib : n - 1 - i < bs.length := by have := HN.out; omega
            have hgb : bs[n - 1 - i]? = some bs[n - 1 - i] := List.getElem?_eq_getElem hib
            have hx8 : bs[n - 1 - i] < 256 := HS.out _ (List.getElem_mem hib)
            generalize bs[n - 1 - i] = x at *
            go_wp2_with (first
              | ((with_reducible apply W_loadCell); rfl; (first | with_reducible exact M.r0 | with_reducible exact M.r1 | with_reducible exact M.r2 | with_reducible exact M.r3 | with_reducible exact M.r4 | with_reducible exact M.r5 | with_reducible exact M.r6 | assumption | exact M.kept.row (by assumption) (by simp)); (first | exact hcs _ _ (by assumption) | exact get_map (by assumption)); exact Salg.underlying5; rfl; simp only [Act.put, List.setIfInBounds_toArray, List.set_cons_zero, List.set_cons_succ])
              | ((with_reducible apply W_st8_0 (m := x)); rfl; rfl; rfl; exact M; exact Or.inr (by assumption); exact size5; omega; clear M; intro w2 M))
            go_roundw
            case rel =>
              refine ⟨i + 1, cur.set i x, by omega, by go_num, by simp [hcl], fun j hj => ?_, M⟩
              rcases Nat.lt_or_ge j i with h | h
              · rw [List.getElem?_set_ne (by omega)]; exact HC.out j h
              · obtain rfl : j = i := by omega
                rw [hgb, List.getElem?_set_self (by omega)]
            case measure => simp [intOf]; omega
end Go.Proofs.YgcsalGreat

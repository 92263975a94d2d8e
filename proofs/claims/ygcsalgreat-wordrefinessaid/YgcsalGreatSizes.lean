/-
  The walk of law.sizesHold.
-/
import Derived.Test.YgcsalGreatRefines1
import Derived.Test.YgcsalGreatAlu6
set_option linter.unusedSimpArgs false
set_option linter.unusedVariables false
namespace Go.Own
theorem len_blen {ds : List Nat} (hs : Small ds) (ht : Tight ds) : ds.length = (blen (val ds) + 7) / 8 := by
  by_cases h : ds = []
  · subst h
    rfl
  · have h1 := ht.ge h
    have h2 := val_lt hs
    have hl : 0 < ds.length := List.length_pos_iff.2 h
    have e : ∀ k, (256 : Nat) ^ k = 2 ^ (8 * k) := fun k => by rw [show (256 : Nat) = 2 ^ 8 from rfl, ← Nat.pow_mul]
    rw [e] at h1 h2
    have h3 := blen_le h2
    have h4 := blen_lt (val ds)
    have h5 : 8 * (ds.length - 1) < blen (val ds) := (Nat.pow_lt_pow_iff_right (by decide : 1 < 2)).1 (Nat.lt_of_le_of_lt h1 h4)
    omega
theorem blen_iff {x k : Nat} : x < 2 ^ k ↔ blen x ≤ k := by
  constructor
  · exact blen_le
  · intro h
    exact Nat.lt_of_lt_of_le (blen_lt x) (Nat.pow_le_pow_right (by decide) h)
end Go.Own
namespace Go.Proofs.YgcsalGreat
open Go.RowKit Go.Own

set_option maxHeartbeats 2000000 in
set_option maxRecDepth 100000 in
theorem sizesHold_yes (ba : List Nat) (w : World) (ha : ba.length = 32) (hsa : Small ba) : Calls Salg.prog 12 #[A8 ba] w fun e w' => e = .returned (.bool true) ∧ Kept [] w w' := by
  have M := Mem.start w []
  have HA := hid (fun b w => fromBE32 b ba ha hsa w)
  have HBX := hid (fun w => fromBytes_any ba w ha hsa)
  have hxl : (limbs4 ba).length = 4 := rfl
  have hL := limbs4_limbs ba hsa
  have hlv := be_limbs4 ha
  have HLM := hid (fun w => limbs_any (limbs4 ba) w hxl)
  have hn := tl_nlb hL hxl
  rw [hlv] at hn
  simp only [hn] at HLM
  have HNB := hid (fun w => wNBytes (limbs4 ba) w hxl hL)
  have HIZ := hid (fun w => wIsZero (limbs4 ba) w hxl hL)
  rw [hlv] at HNB HIZ
  have hbl : blen (be ba) ≤ 256 := blen_le (be_lt ha hsa)
  have hnlb : nlb (be ba) = (blen (be ba) + 63) / 64 := rfl
  have hbz : be ba = 0 ↔ blen (be ba) = 0 := by
    constructor
    · intro h; rw [h]; rfl
    · intro h
      have := blen_lt (be ba)
      rw [h] at this
      omega
  rcases Nat.lt_or_ge (be ba) 18446744073709551616 with hX | hX
  · have HU := hid (fun w => wU64yes (limbs4 ba) w hxl hL (by rw [hlv]; exact hX))
    rw [hlv] at HU
    have hb64 : blen (be ba) ≤ 64 := blen_le hX
    clear hn hL hlv hsa
    generalize limbs4 ba = xl at *
    go_enter Salg.func12, Salg.ntmps12
    go_wp2_with (first
      | ((with_reducible apply L_box (d := 1) M); rfl; clear M; intro c1 w1 hc1 M; simp only [Act.put, List.setIfInBounds_toArray, List.set_cons_zero, List.set_cons_succ])
      | ((with_reducible apply W_loadAll); rfl; (first | with_reducible exact M.r0 | with_reducible exact M.r1 | with_reducible exact M.r2 | with_reducible exact M.r3 | with_reducible exact M.r4 | with_reducible exact M.r5 | with_reducible exact M.r6 | assumption | exact M.kept.row (by assumption) (by simp)); exact Salg.underlying22; rfl; (first | with_reducible exact size22 | (rw [size22]; simp [ha])); simp only [Act.put, List.setIfInBounds_toArray, List.set_cons_zero, List.set_cons_succ]))
    refine (HBX.out _).mono ?_
    rintro e w2 ⟨rfl, K⟩
    replace M := M.call K
    clear K HBX
    go_wp2_with (first
      | ((with_reducible apply L_allocA (d := 3) M); exact zero25; clear M; intro c2 w1 hc2 M; simp only [Act.put, List.setIfInBounds_toArray, List.set_cons_zero, List.set_cons_succ])
      | ((with_reducible apply W_storeK (b := c2)); rfl; rfl; exact M.r0; exact size25; (first | rfl | simp [hxl]); exact one64 _; intro w3 K hr3; replace M := Mem.callPut (L1 := []) M (Or.inr (by assumption)) K hr3; clear K hr3; simp only [List.cons_append, List.nil_append] at M)
      | ((with_reducible apply W_sliceArr (l := 0) (h := 32) (m := 32)); rfl; exact Salg.underlying22; exact size5; (first | exact Or.inl ⟨rfl, rfl⟩ | exact Or.inr ⟨_, _, _, rfl, rfl, by omega⟩); (first | exact Or.inl ⟨rfl, rfl⟩ | exact Or.inr ⟨_, _, _, rfl, rfl, by omega⟩); (first | exact Or.inl ⟨rfl, rfl⟩ | exact Or.inr ⟨_, _, _, rfl, rfl, by omega⟩); (first | exact Or.inl rfl | exact Or.inr rfl); omega; omega; omega; omega; (try simp only [Nat.zero_add, Nat.sub_zero]); simp only [Act.put, List.setIfInBounds_toArray, List.set_cons_zero, List.set_cons_succ]))
    refine (HA.out _ _ M.r1).mono ?_
    rintro e w3 ⟨u, rfl, hu, K⟩
    replace M := M.call K
    obtain ⟨ds, ⟨p, c, rfl, hc, hc', hd, hs⟩, htt, hval⟩ := hu
    have HLEN := len_blen hs htt
    have hNV : NumV w3 (.slice p ds.length c) (be ba) := ⟨ds, ⟨p, c, rfl, hc, hc', hd, hs⟩, htt, hval⟩
    rw [hval] at HLEN
    have HNV := hid hNV
    clear hNV hs htt hval hd K
    generalize ds.length = n at *
    rw [← HLEN] at HNB
    have hn2 : nlb (be ba) = (n + 7) / 8 := by rw [hnlb, HLEN]; omega
    rw [hn2] at HLM
    have hz2 : decide (be ba = 0) = ((n : Int) == 0) := by
      rw [Bool.eq_iff_iff]
      simp only [decide_eq_true_eq, beq_iff_eq]
      rw [hbz, HLEN]
      omega
    rw [hz2] at HIZ
    have hd1 : decide ((n : Int) ≤ 8) = true := by simp; omega
    have hn32 : n ≤ 32 := by omega
    have HBZ := hid hbz
    clear hbz hnlb hn2 hz2 hb64 hbl HLEN
    go_wp2_with ((with_reducible apply W_loadAll); rfl; (first | with_reducible exact M.r0 | with_reducible exact M.r1 | with_reducible exact M.r2 | with_reducible exact M.r3 | with_reducible exact M.r4 | with_reducible exact M.r5 | with_reducible exact M.r6 | assumption | exact M.kept.row (by assumption) (by simp)); exact Salg.underlying25; rfl; (first | with_reducible exact size25 | (rw [size25]; simp [hxl])); simp only [Act.put, List.setIfInBounds_toArray, List.set_cons_zero, List.set_cons_succ])
    refine (HU.out _).mono ?_
    rintro e w4 ⟨rfl, K⟩
    replace M := M.call K
    replace HNV := hid (HNV.out.kept K)
    clear K HU
    go_wp2_with fail
    refine (fromU64_any _ hX _).mono ?_
    rintro e w5 ⟨FU, rfl, xHFU, K⟩
    have HFU := hid xHFU
    replace HNV := hid (HNV.out.kept K)
    replace M := M.call K
    clear K xHFU
    go_wp2_with fail
    refine (cmp_num _ _ _ _ _ HFU.out HNV.out).mono ?_
    rintro e w6 ⟨rfl, K⟩
    replace M := M.call K
    clear K
    rw [cmpI_eq rfl]
    clear HFU HNV HBZ
    go_wp2_with ((with_reducible apply W_loadAll); rfl; (first | with_reducible exact M.r0 | with_reducible exact M.r1 | with_reducible exact M.r2 | with_reducible exact M.r3 | with_reducible exact M.r4 | with_reducible exact M.r5 | with_reducible exact M.r6 | assumption | exact M.kept.row (by assumption) (by simp)); exact Salg.underlying25; rfl; (first | with_reducible exact size25 | (rw [size25]; simp [hxl])); simp only [Act.put, List.setIfInBounds_toArray, List.set_cons_zero, List.set_cons_succ])
    refine (HNB.out _).mono ?_
    rintro e w8 ⟨rfl, K⟩
    replace M := M.call K
    clear K HNB
    go_wp2_with ((with_reducible apply W_loadAllG); rfl; rfl; (first | with_reducible exact M.r0 | with_reducible exact M.r1 | with_reducible exact M.r2 | with_reducible exact M.r3 | with_reducible exact M.r4 | with_reducible exact M.r5 | with_reducible exact M.r6 | assumption | exact M.kept.row (by assumption) (by simp)); exact Salg.underlying25; rfl; (first | with_reducible exact size25 | (rw [size25]; simp [hxl])); simp only [Act.put, List.setIfInBounds_toArray, List.set_cons_zero, List.set_cons_succ])
    refine (HLM.out _).mono ?_
    rintro e w9 ⟨rfl, K⟩
    replace M := M.call K
    clear K HLM
    go_wp2_with ((with_reducible apply W_loadAllG); rfl; rfl; (first | with_reducible exact M.r0 | with_reducible exact M.r1 | with_reducible exact M.r2 | with_reducible exact M.r3 | with_reducible exact M.r4 | with_reducible exact M.r5 | with_reducible exact M.r6 | assumption | exact M.kept.row (by assumption) (by simp)); exact Salg.underlying25; rfl; (first | with_reducible exact size25 | (rw [size25]; simp [hxl])); simp only [Act.put, List.setIfInBounds_toArray, List.set_cons_zero, List.set_cons_succ])
    refine (HIZ.out _).mono ?_
    rintro e w10 ⟨rfl, K⟩
    replace M := M.call K
    clear K HIZ
    go_wp2_with fail
    go_ret
    exact ⟨rfl, M.kept⟩
  · have HU := hid (fun w => wU64no (limbs4 ba) w hxl hL (by rw [hlv]; exact hX))
    have hb64 : 64 < blen (be ba) := by
      rcases Nat.lt_or_ge 64 (blen (be ba)) with h | h
      · exact h
      · have := blen_iff.2 h
        omega
    clear hn hL hlv hsa
    generalize limbs4 ba = xl at *
    go_enter Salg.func12, Salg.ntmps12
    go_wp2_with (first
      | ((with_reducible apply L_box (d := 1) M); rfl; clear M; intro c1 w1 hc1 M; simp only [Act.put, List.setIfInBounds_toArray, List.set_cons_zero, List.set_cons_succ])
      | ((with_reducible apply W_loadAll); rfl; (first | with_reducible exact M.r0 | with_reducible exact M.r1 | with_reducible exact M.r2 | with_reducible exact M.r3 | with_reducible exact M.r4 | with_reducible exact M.r5 | with_reducible exact M.r6 | assumption | exact M.kept.row (by assumption) (by simp)); exact Salg.underlying22; rfl; (first | with_reducible exact size22 | (rw [size22]; simp [ha])); simp only [Act.put, List.setIfInBounds_toArray, List.set_cons_zero, List.set_cons_succ]))
    refine (HBX.out _).mono ?_
    rintro e w2 ⟨rfl, K⟩
    replace M := M.call K
    clear K HBX
    go_wp2_with (first
      | ((with_reducible apply L_allocA (d := 3) M); exact zero25; clear M; intro c2 w1 hc2 M; simp only [Act.put, List.setIfInBounds_toArray, List.set_cons_zero, List.set_cons_succ])
      | ((with_reducible apply W_storeK (b := c2)); rfl; rfl; exact M.r0; exact size25; (first | rfl | simp [hxl]); exact one64 _; intro w3 K hr3; replace M := Mem.callPut (L1 := []) M (Or.inr (by assumption)) K hr3; clear K hr3; simp only [List.cons_append, List.nil_append] at M)
      | ((with_reducible apply W_sliceArr (l := 0) (h := 32) (m := 32)); rfl; exact Salg.underlying22; exact size5; (first | exact Or.inl ⟨rfl, rfl⟩ | exact Or.inr ⟨_, _, _, rfl, rfl, by omega⟩); (first | exact Or.inl ⟨rfl, rfl⟩ | exact Or.inr ⟨_, _, _, rfl, rfl, by omega⟩); (first | exact Or.inl ⟨rfl, rfl⟩ | exact Or.inr ⟨_, _, _, rfl, rfl, by omega⟩); (first | exact Or.inl rfl | exact Or.inr rfl); omega; omega; omega; omega; (try simp only [Nat.zero_add, Nat.sub_zero]); simp only [Act.put, List.setIfInBounds_toArray, List.set_cons_zero, List.set_cons_succ]))
    refine (HA.out _ _ M.r1).mono ?_
    rintro e w3 ⟨u, rfl, hu, K⟩
    replace M := M.call K
    obtain ⟨ds, ⟨p, c, rfl, hc, hc', hd, hs⟩, htt, hval⟩ := hu
    have HLEN := len_blen hs htt
    have hNV : NumV w3 (.slice p ds.length c) (be ba) := ⟨ds, ⟨p, c, rfl, hc, hc', hd, hs⟩, htt, hval⟩
    rw [hval] at HLEN
    have HNV := hid hNV
    clear hNV hs htt hval hd K
    generalize ds.length = n at *
    rw [← HLEN] at HNB
    have hn2 : nlb (be ba) = (n + 7) / 8 := by rw [hnlb, HLEN]; omega
    rw [hn2] at HLM
    have hz2 : decide (be ba = 0) = ((n : Int) == 0) := by
      rw [Bool.eq_iff_iff]
      simp only [decide_eq_true_eq, beq_iff_eq]
      rw [hbz, HLEN]
      omega
    rw [hz2] at HIZ
    have hd1 : decide ((n : Int) ≤ 8) = false := by simp; omega
    have hn32 : n ≤ 32 := by omega
    have HBZ := hid hbz
    clear hbz hnlb hn2 hz2 hb64 hbl HLEN
    go_wp2_with ((with_reducible apply W_loadAll); rfl; (first | with_reducible exact M.r0 | with_reducible exact M.r1 | with_reducible exact M.r2 | with_reducible exact M.r3 | with_reducible exact M.r4 | with_reducible exact M.r5 | with_reducible exact M.r6 | assumption | exact M.kept.row (by assumption) (by simp)); exact Salg.underlying25; rfl; (first | with_reducible exact size25 | (rw [size25]; simp [hxl])); simp only [Act.put, List.setIfInBounds_toArray, List.set_cons_zero, List.set_cons_succ])
    refine (HU.out _).mono ?_
    rintro e w4 ⟨rfl, K⟩
    replace M := M.call K
    replace HNV := hid (HNV.out.kept K)
    clear K HU
    clear HNV HBZ
    go_wp2_with ((with_reducible apply W_loadAll); rfl; (first | with_reducible exact M.r0 | with_reducible exact M.r1 | with_reducible exact M.r2 | with_reducible exact M.r3 | with_reducible exact M.r4 | with_reducible exact M.r5 | with_reducible exact M.r6 | assumption | exact M.kept.row (by assumption) (by simp)); exact Salg.underlying25; rfl; (first | with_reducible exact size25 | (rw [size25]; simp [hxl])); simp only [Act.put, List.setIfInBounds_toArray, List.set_cons_zero, List.set_cons_succ])
    refine (HNB.out _).mono ?_
    rintro e w8 ⟨rfl, K⟩
    replace M := M.call K
    clear K HNB
    go_wp2_with ((with_reducible apply W_loadAllG); rfl; rfl; (first | with_reducible exact M.r0 | with_reducible exact M.r1 | with_reducible exact M.r2 | with_reducible exact M.r3 | with_reducible exact M.r4 | with_reducible exact M.r5 | with_reducible exact M.r6 | assumption | exact M.kept.row (by assumption) (by simp)); exact Salg.underlying25; rfl; (first | with_reducible exact size25 | (rw [size25]; simp [hxl])); simp only [Act.put, List.setIfInBounds_toArray, List.set_cons_zero, List.set_cons_succ])
    refine (HLM.out _).mono ?_
    rintro e w9 ⟨rfl, K⟩
    replace M := M.call K
    clear K HLM
    go_wp2_with ((with_reducible apply W_loadAllG); rfl; rfl; (first | with_reducible exact M.r0 | with_reducible exact M.r1 | with_reducible exact M.r2 | with_reducible exact M.r3 | with_reducible exact M.r4 | with_reducible exact M.r5 | with_reducible exact M.r6 | assumption | exact M.kept.row (by assumption) (by simp)); exact Salg.underlying25; rfl; (first | with_reducible exact size25 | (rw [size25]; simp [hxl])); simp only [Act.put, List.setIfInBounds_toArray, List.set_cons_zero, List.set_cons_succ])
    refine (HIZ.out _).mono ?_
    rintro e w10 ⟨rfl, K⟩
    replace M := M.call K
    clear K HIZ
    go_wp2_with fail
    go_ret
    exact ⟨rfl, M.kept⟩
end Go.Proofs.YgcsalGreat

/-
  The walks of nat: Norm (its own row), Add, Sub, FromU64, U64.
-/
import Derived.Test.YgcsalGreatNormShift
set_option linter.unusedSimpArgs false
namespace Go.Proofs.YgcsalGreat
open Go.RowKit Go.Own

set_option maxHeartbeats 1000000 in
set_option maxRecDepth 100000 in
/-- Norm: a row of its own. -/
theorem norm_own (v : Value) (ds : List Nat) (w : World) (hv : NatV w v ds) :
    Calls Salg.prog 158 #[v] w fun e w' => ∃ u, e = .returned u ∧ ((tr ds = [] ∧ u = .slice none 0 0) ∨ ∃ b t, u = .slice (some ⟨b, 0, none⟩) (tr ds).length (tr ds).length ∧ w.heap.size ≤ b ∧ w'.heap[b]? = some (R8 t (tr ds))) ∧ Kept [] w w' := by
  obtain ⟨p, c, rfl, hc, hc', hd, hs⟩ := hv
  have HD := hid hd
  have HTR := hid (tr_length ds)
  have HSM := hid hs.tr
  clear hd hs
  have htl := tl_le ds ds.length
  have M := Mem.start w []
  by_cases h0 : tl ds ds.length = 0
  · go_enter Salg.func158, Salg.ntmps158
    go_wp2_with (go_at_call 154; refine (trim_any p c ds _ hc hc' HD.out).mono ?_; rintro e w1 ⟨rfl, rfl⟩; rw [h0])
    go_ret
    refine ⟨_, rfl, ?_, M.kept⟩
    exact Or.inl ⟨List.length_eq_zero_iff.1 (by rw [HTR.out, h0]), rfl⟩
  · have hpos : 0 < tl ds ds.length := by omega
    have HT2 : Hid ((ds.take (tl ds ds.length)).length = tl ds ds.length) := HTR.out
    have HS2 : Hid (Small (ds.take (tl ds ds.length))) := HSM.out
    clear HTR HSM
    rw [show tr ds = ds.take (tl ds ds.length) from rfl]
    obtain ⟨b, t, cs, rfl, hr, hpre⟩ := HD.out.at (i := 0) (by omega)
    have HP := hid ((List.take_prefix (tl ds ds.length) ds).trans hpre)
    have htrim := fun w1 (h : Dig w1 (some ⟨b, 0, none⟩) ds) => trim_any (some ⟨b, 0, none⟩) c ds w1 hc hc' h
    have HTRIM := hid htrim
    clear htrim hpre
    generalize tl ds ds.length = k at *
    go_enter Salg.func158, Salg.ntmps158
    go_wp2_with (first
      | (go_at_call 154; refine (HTRIM.out _ HD.out).mono ?_; rintro e w1 ⟨rfl, rfl⟩)
      | ((with_reducible apply W_make8 M); rfl; rfl; rfl; rfl; omega; exact Salg.underlying89; exact info5; clear M; intro b1 w2 hb1 M; simp only [Act.put, List.setIfInBounds_toArray, List.set_cons_zero, List.set_cons_succ])
      | ((with_reducible apply W_copyMap0 (f := n8) (fun _ => rfl)); rfl; rfl; exact Salg.underlying89; exact size5; exact M; exact Or.inr hb1; exact M.kept.row hr (by simp); (simp <;> omega); (have := HP.out.length_le; rw [HT2.out] at this; simp <;> omega); clear M; intro w3 M; simp only [Act.put, List.setIfInBounds_toArray, List.set_cons_zero, List.set_cons_succ]))
    go_ret
    refine ⟨_, rfl, ?_, M.kept⟩
    have e1 : cs.take (min k k) ++ (List.replicate k 0).drop (min k k) = ds.take k := by
      rw [Nat.min_self, List.drop_of_length_le (by simp), List.append_nil]
      have := List.prefix_iff_eq_take.1 HP.out
      rw [HT2.out] at this
      exact this.symm
    rw [e1] at M
    exact Or.inr ⟨b1, _, by rw [HT2.out]; rfl, hb1, M.r0⟩

set_option maxHeartbeats 1000000 in
set_option maxRecDepth 100000 in
theorem take_nil (u : Value) (w : World) :
    Calls Salg.prog 204 #[.slice none 0 0, u] w fun e w' => ∃ v, e = .returned v ∧ w' = w := by
  go_enter Salg.func204, Salg.ntmps204
  go_wp2_with fail
  go_loop [11] (fun iv => iv = .int .i64 0) (fun _ => 0)
  case atStart => rfl
  case round =>
    subst hrel
    go_wp2_with fail
    go_ret
    first | exact ⟨_, rfl, rfl⟩ | exact ⟨⟨_, rfl⟩, rfl⟩

set_option maxHeartbeats 2000000 in
set_option maxRecDepth 100000 in
theorem sub_num (v u : Value) (m n : Nat) (w : World) (hv : NumV w v m) (hu : NumV w u n) (hm : m < 256 ^ 200) (hle : n ≤ m) :
    Calls Salg.prog 157 #[v, u] w fun e w' => ∃ r, e = .returned (.tuple #[r, .bool true]) ∧ NumV w' r (m - n) ∧ Kept [] w w' := by
  have M := Mem.start w []
  obtain ⟨ds, h1, rfl, hdl⟩ := hv.short hm
  obtain ⟨es, h2, rfl, hel⟩ := hu.short (Nat.lt_of_le_of_lt hle hm)
  have HC := hid (cmp_any v u ds es w h1 h2)
  have hcd : decide (cmpI (val ds) (val es) < (0 : Int)) = false := by
    have : ¬ cmpI (val ds) (val es) < 0 := by rw [cmpI_neg]; omega
    simp; omega
  have HV := hid h1
  obtain ⟨q, c2, rfl, hk, hk', hd', hs'⟩ := h2
  have HDE := hid hd'
  have HSE := hid hs'
  have HLE := hid hle
  clear h1 hv hu hd' hs' hle
  generalize cmpI (val ds) (val es) = c at *
  go_enter Salg.func157, Salg.ntmps157
  go_wp2_with fail
  refine HC.out.mono ?_
  rintro e w1 ⟨rfl, K⟩
  have HV1 := hid (HV.out.kept K)
  have HDE1 := hid (HDE.out.kept K)
  replace M := M.call K
  clear K HV HDE HC
  go_wp2_with fail
  refine (norm_own v ds w1 HV1.out).mono ?_
  rintro e w2 ⟨o, rfl, ho, K⟩
  have HDE2 := hid (HDE1.out.kept K)
  have hsz := M.kept.size
  have M2 := M.call K
  have HQB : Hid (∀ b, w1.heap.size ≤ b → es.take (tl es es.length) ≠ [] → q.map (·.block) ≠ some b) := fun b hb hne => by
    have hpos : 0 < es.length := by
      rcases Nat.eq_zero_or_pos es.length with h | h
      · exfalso; apply hne; rw [List.length_eq_zero_iff.1 h]; rfl
      · exact h
    obtain ⟨b', t', cs', hq, hr', _⟩ := HDE1.out.at (i := 0) hpos
    have := lt_of_row hr'
    rw [hq]; simp; omega
  have HTL := hid (tr_length es)
  have hte := tl_le es es.length
  have HTRIM := hid (trim_any q c2 es w2 hk hk' HDE2.out)
  rcases ho with ⟨h0, rfl⟩ | ⟨b, t, rfl, hb, hrow⟩
  · have hz : val ds = 0 := by rw [← tr_val, h0]; rfl
    have HZ := hid hz
    clear hz h0 K M
    go_wp2_with fail
    refine HTRIM.out.mono ?_
    rintro e w3 ⟨rfl, rfl⟩
    go_wp2_with fail
    refine (take_nil _ _).mono ?_
    rintro e w3 ⟨v, rfl, rfl⟩
    go_wp2_with fail
    refine (clip_any _ [] _ (NatV.nil _)).mono ?_
    rintro e w3 ⟨r, rfl, hr, rfl⟩
    have HR := hid hr
    clear hr
    go_wp2_with fail
    go_ret2
    refine ⟨_, rfl, ⟨_, HR.out, tr_tight _, ?_⟩, M2.kept⟩
    rw [HZ.out, Nat.zero_sub]; rfl
  · have hL : (tr es).length ≤ (tr ds).length := by
      rcases Nat.lt_or_ge (tr ds).length (tr es).length with h | h
      · exfalso
        have := tight_lt (HV1.out.small.tr) (tr_tight es) h
        rw [tr_val, tr_val] at this
        have := HLE.out
        omega
      · exact h
    have hdl' : (tr ds).length ≤ 200 := by have := tr_length ds; have := tl_le ds ds.length; omega
    have HTK := hid (take_any b t q (tl es es.length) (tr ds) (es.take (tl es es.length)) w2 hrow HV1.out.small.tr (by omega) (by rw [show (es.take (tl es es.length)).length = tl es es.length from HTL.out]; exact Nat.le_refl _) (by omega) hL (HDE2.out.take _) HSE.out.tr (HQB.out b hb))
    have HE : Hid ((es.take (tl es es.length)).length = tl es es.length) := HTL.out
    rw [HE.out] at HTK
    have HVD := hid (tr_val ds)
    have HVE : Hid (val (es.take (tl es es.length)) = val es) := tr_val es
    have hbw : w.heap.size ≤ b := by omega
    have M3 := M2.add hrow (by simp)
    generalize tl es es.length = L at *
    have HDL := hid hdl'
    clear M M2 K hL
    generalize tr ds = A at *
    generalize es.take L = B at *
    go_wp2_with fail
    refine HTRIM.out.mono ?_
    rintro e w3 ⟨rfl, rfl⟩
    go_wp2_with fail
    refine HTK.out.mono ?_
    rintro e w4 ⟨r, cur, rfl, hr1, hcl, hcs, hcv, K, hrow'⟩
    have HCV := hid hcv
    have HCS := hid hcs
    replace M3 := Mem.callPut (L1 := []) M3 (Or.inr hbw) K hrow'
    rw [List.nil_append] at M3
    clear K hrow' hcv hcs
    have HN := hid (NatV.row M3.r0 HCS.out (by omega))
    rw [hcl] at HN
    go_wp2_with fail
    refine (clip_any _ cur _ HN.out).mono ?_
    rintro e w5 ⟨r', rfl, hr', rfl⟩
    have HR := hid hr'
    clear hr'
    go_wp2_with fail
    go_ret2
    refine ⟨_, rfl, ⟨_, HR.out, tr_tight _, ?_⟩, M3.kept⟩
    rw [tr_val]
    have h1 := HCV.out
    rw [HVE.out, HVD.out] at h1
    have h2 := val_lt HCS.out
    rw [hcl] at h2
    have h3 := HLE.out
    rcases (show r = 0 ∨ r = 1 by omega) with rfl | rfl
    · omega
    · exfalso; omega

end Go.Proofs.YgcsalGreat
namespace Go.Own
/-- The lowest i digits of a number. -/
def bd (x i : Nat) : List Nat := (List.range i).map fun k => x / 256 ^ k % 256
theorem bd_length (x i : Nat) : (bd x i).length = i := by simp [bd]
theorem bd_succ (x i : Nat) : bd x (i + 1) = bd x i ++ [x / 256 ^ i % 256] := by simp [bd, List.range_succ]
theorem bd_small (x i : Nat) : Small (bd x i) := by
  intro y hy
  simp only [bd, List.mem_map] at hy
  obtain ⟨k, _, rfl⟩ := hy
  exact Nat.mod_lt _ (by decide)
theorem bd_val (x : Nat) : ∀ i, val (bd x i) = x % 256 ^ i
  | 0 => by simp [bd, val, Nat.mod_one]
  | i + 1 => by
    rw [bd_succ, val_append, bd_val x i, bd_length, Nat.pow_succ, Nat.mod_mul]
    simp [val]
end Go.Own
namespace Go.Proofs.YgcsalGreat
open Go.RowKit Go.Own

set_option maxHeartbeats 2000000 in
set_option maxRecDepth 100000 in
theorem fromU64_any (x : Nat) (hx : x < 18446744073709551616) (w : World) :
    Calls Salg.prog 77 #[.int .u64 x] w fun e w' => ∃ r, e = .returned r ∧ NumV w' r x ∧ Kept [] w w' := by
  have M := Mem.start w []
  go_enter Salg.func77, Salg.ntmps77
  go_wp2_with ((with_reducible apply L_allocA (d := 3) M); exact zero33; clear M; intro b1 w1 hb1 M; simp only [Act.put, List.setIfInBounds_toArray, List.set_cons_zero, List.set_cons_succ])
  go_loopw [0, 5] (fun xv iv wr => ∃ i : Nat, i ≤ 8 ∧ iv = .int .i64 i ∧ xv = .int .u64 ((x / 256 ^ i : Nat) : Int) ∧ Mem w [] [(b1, R8 33 (bd x i ++ List.replicate (8 - i) 0))] wr) (fun _ iv _ => 8 - (intOf iv).toNat)
  case atStart => exact ⟨0, by omega, rfl, by simp, M⟩
  case round =>
    clear M
    obtain ⟨i, hi, rfl, rfl, M⟩ := hrel
    by_cases hi8 : i < 8
    · have HF := hid (fill_set (l := bd x i) (n := 8) (x / 256 ^ i % 256) (bd_length x i) hi8)
      have HN : Hid (x / 256 ^ i / 256 = x / 256 ^ (i + 1)) := by show _ = _; rw [Nat.div_div_eq_div_mul, Nat.pow_succ]
      have HB := hid (bd_succ x i)
      have hll : (bd x i ++ List.replicate (8 - i) 0).length = 8 := by simp [bd_length]; omega
      have hdb : x / 256 ^ i < 18446744073709551616 := Nat.lt_of_le_of_lt (Nat.div_le_self _ _) hx
      rw [← HB.out] at HF
      generalize x / 256 ^ i = d at *
      go_wp2_with ((with_reducible apply W_st8_0 (m := d % 256)); rfl; rfl; omega; exact M; exact Or.inr hb1; exact size5; omega; clear M; intro w2 M)
      rw [HF.out] at M
      go_roundw
      case rel => exact ⟨i + 1, by omega, by go_num, by rw [← HN.out]; go_num, M⟩
      case measure => simp [intOf]; omega
    · have hi' : i = 8 := by omega
      subst hi'
      have hv : val (bd x 8) = x := by rw [bd_val]; exact Nat.mod_eq_of_lt hx
      have HV := hid hv
      have hl8 := bd_length x 8
      have hs8 := bd_small x 8
      simp only [Nat.sub_self, List.replicate_zero, List.append_nil] at M
      clear hv
      generalize bd x 8 = l at *
      have HN := hid (NatV.row M.r0 hs8 (by omega))
      rw [hl8] at HN
      go_wp2_with ((with_reducible apply W_sliceArr (l := 0) (h := 8) (m := 8)); rfl; exact Salg.underlying33; exact size5; (first | exact Or.inl ⟨rfl, rfl⟩ | exact Or.inr ⟨_, _, _, rfl, rfl, by omega⟩); (first | exact Or.inl ⟨rfl, rfl⟩ | exact Or.inr ⟨_, _, _, rfl, rfl, by omega⟩); (first | exact Or.inl ⟨rfl, rfl⟩ | exact Or.inr ⟨_, _, _, rfl, rfl, by omega⟩); (first | exact Or.inl rfl | exact Or.inr rfl); omega; omega; omega; omega; (try simp only [Nat.zero_add, Nat.sub_zero]); simp only [Act.put, List.setIfInBounds_toArray, List.set_cons_zero, List.set_cons_succ])
      refine (norm_any _ l _ HN.out).mono ?_
      rintro e w3 ⟨r, rfl, hr, K⟩
      have HR := hid hr
      replace M := M.call K
      clear hr K
      go_wp2_with fail
      go_ret
      exact ⟨_, rfl, ⟨_, HR.out, tr_tight _, by rw [tr_val, HV.out]⟩, M.kept⟩
-- U64
end Go.Proofs.YgcsalGreat
namespace Go.Own
theorem val_drop_cons {l : List Nat} {k : Nat} (h : k < l.length) : val (l.drop k) = l[k] + 256 * val (l.drop (k + 1)) := by
  rw [List.drop_eq_getElem_cons h]; rfl
theorem val_drop_le (l : List Nat) (k : Nat) : val (l.drop k) ≤ val l := by
  have := val_append (l.take k) (l.drop k)
  rw [List.take_append_drop] at this
  have h1 : 1 * val (l.drop k) ≤ 256 ^ (l.take k).length * val (l.drop k) := Nat.mul_le_mul_right _ (Nat.pow_pos (by decide))
  omega
end Go.Own
namespace Go.Proofs.YgcsalGreat
open Go.RowKit Go.Own

set_option maxHeartbeats 2000000 in
set_option maxRecDepth 100000 in
theorem u64_num (v : Value) (n : Nat) (w : World) (hv : NumV w v n) (hn : n < 18446744073709551616) :
    Calls Salg.prog 174 #[v] w fun e w' => e = .returned (.tuple #[n64 n, .bool true]) ∧ w' = w := by
  obtain ⟨ds, h1, rfl, hdl⟩ := hv.short (k := 8) hn
  obtain ⟨p, c, rfl, hc, hc', hd, hs⟩ := h1
  clear hv
  have HTRIM := hid (trim_any p c ds w hc hc' hd)
  have hte := tl_le ds ds.length
  have HD := hid (hd.take (tl ds ds.length))
  have HS : Hid (Small (ds.take (tl ds ds.length))) := hs.take _
  have HL : Hid ((ds.take (tl ds ds.length)).length = tl ds ds.length) := tr_length ds
  have HV : Hid (val (ds.take (tl ds ds.length)) = val ds) := tr_val ds
  rw [← HV.out] at hn ⊢
  clear hd hs HV
  have hl8 : tl ds ds.length ≤ 8 := by omega
  generalize tl ds ds.length = L at *
  generalize ds.take L = A at *
  go_enter Salg.func174, Salg.ntmps174
  go_wp2_with fail
  refine HTRIM.out.mono ?_
  rintro e w1 ⟨rfl, rfl⟩
  go_wp2_with fail
  go_loop [4, 5] (fun xv iv => ∃ i : Nat, i ≤ L ∧ iv = .int .i64 i ∧ xv = .int .u64 ((val (A.drop i) : Nat) : Int)) (fun _ iv => (intOf iv).toNat)
  case atStart => exact ⟨L, by omega, rfl, by rw [List.drop_of_length_le (by rw [HL.out]; omega)]; rfl⟩
  case round =>
    obtain ⟨i, hi, rfl, rfl⟩ := hrel
    match i, hi with
    | 0, hi =>
      rw [List.drop_zero]
      go_wp2_with fail
      go_ret2
      exact ⟨rfl, rfl⟩
    | i + 1, hi =>
      have hiA : i < A.length := by rw [HL.out]; omega
      obtain ⟨b, t, cs, rfl, hr, hpre⟩ := HD.out.at hiA
      have hga := pre_get hpre hiA
      have hxa := HS.out.get hiA
      have hvd := val_drop_cons hiA
      have hle := val_drop_le A i
      have hlt : val (A.drop i) < 18446744073709551616 := by omega
      have HVD := hid hvd
      rw [hvd] at hlt
      clear hvd hle
      generalize A[i] = x at *
      generalize val (A.drop (i + 1)) = z at *
      have hz : z < 72057594037927936 := by omega
      go_wp2_with ((with_reducible apply W_loadCell); rfl; (first | with_reducible exact M.r0 | with_reducible exact M.r1 | with_reducible exact M.r2 | with_reducible exact M.r3 | with_reducible exact M.r4 | with_reducible exact M.r5 | with_reducible exact M.r6 | assumption | exact M.kept.row (by assumption) (by simp)); (first | exact get_map (by assumption) | exact get_map rfl | rfl); exact Salg.underlying5; rfl; simp only [Act.put, List.setIfInBounds_toArray, List.set_cons_zero, List.set_cons_succ])
      go_round
      case rel => exact ⟨i, by omega, by go_num, by rw [HVD.out]; first | (rw [shl8_or_wrap hxa]; congr 2; omega) | (rw [shl8_or hz hxa]; congr 2; omega)⟩
      case measure => simp [intOf]
end Go.Proofs.YgcsalGreat

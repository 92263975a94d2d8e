/-
  nat.Norm, nat.Add, nat.Sub, nat.FromU64, yp.less, yp.num: what they answer lies in a new block.
-/
import Derived.Test.YgcsalGreatMv1
set_option linter.unusedSimpArgs false
set_option linter.unusedVariables false
namespace Go.Own
/-- The digits, if there are any, lie in a block that is new since w0. -/
def FreshV (w0 : World) (v : Value) (ds : List Nat) : Prop := ds = [] ∨ ∀ b, v.ownBlock = some b → w0.heap.size ≤ b
def NumF (w0 w : World) (v : Value) (n : Nat) : Prop := ∃ ds, NatV w v ds ∧ Tight ds ∧ val ds = n ∧ FreshV w0 v ds
theorem NumF.num {w0 w : World} {v : Value} {n : Nat} (h : NumF w0 w v n) : NumV w v n := by
  obtain ⟨ds, h1, h2, h3, _⟩ := h
  exact ⟨ds, h1, h2, h3⟩
theorem NumF.kept {w0 w w' : World} {v : Value} {n : Nat} (h : NumF w0 w v n) (k : Kept [] w w') : NumF w0 w' v n := by
  obtain ⟨ds, h1, h2, h3, h4⟩ := h
  exact ⟨ds, h1.kept k, h2, h3, h4⟩
theorem NumF.older {w0 w1 w : World} {v : Value} {n : Nat} (h : NumF w1 w v n) (k : w0.heap.size ≤ w1.heap.size) : NumF w0 w v n := by
  obtain ⟨ds, h1, h2, h3, h4⟩ := h
  exact ⟨ds, h1, h2, h3, h4.imp id fun h b hb => Nat.le_trans k (h b hb)⟩
theorem nil_numF (w0 w : World) : NumF w0 w (.slice none 0 0) 0 := ⟨[], NatV.nil _, by intro x hx; simp at hx, rfl, .inl rfl⟩
/-- The digits, if there are any, lie in none of these blocks. -/
def NumS (S : List Nat) (w : World) (v : Value) (n : Nat) : Prop := ∃ ds, NatV w v ds ∧ Tight ds ∧ val ds = n ∧ (ds = [] ∨ ∀ b, v.ownBlock = some b → b ∉ S)
theorem NumS.num {S : List Nat} {w : World} {v : Value} {n : Nat} (h : NumS S w v n) : NumV w v n := by
  obtain ⟨ds, h1, h2, h3, _⟩ := h
  exact ⟨ds, h1, h2, h3⟩
theorem NumS.kept {S : List Nat} {w w' : World} {v : Value} {n : Nat} (h : NumS S w v n) (k : Kept [] w w') : NumS S w' v n := by
  obtain ⟨ds, h1, h2, h3, h4⟩ := h
  exact ⟨ds, h1.kept k, h2, h3, h4⟩
theorem NumS.nil (w : World) (n : Value → Prop := fun _ => True) : NumS [] w (.slice none 0 0) 0 := ⟨[], NatV.nil _, by intro x hx; simp at hx, rfl, .inl rfl⟩
theorem nil_numS (S : List Nat) (w : World) : NumS S w (.slice none 0 0) 0 := ⟨[], NatV.nil _, by intro x hx; simp at hx, rfl, .inl rfl⟩
theorem NumF.off {S : List Nat} {w0 w : World} {v : Value} {n : Nat} (h : NumF w0 w v n) (hS : ∀ b ∈ S, b < w0.heap.size) : NumS S w v n := by
  obtain ⟨ds, h1, h2, h3, h4⟩ := h
  refine ⟨ds, h1, h2, h3, h4.imp id fun h b hb hm => ?_⟩
  have := h b hb
  have := hS b hm
  omega
theorem NumV.off {w : World} {v : Value} {n : Nat} (h : NumV w v n) {S : List Nat} (hS : ∀ b ∈ S, w.heap.size ≤ b) : NumS S w v n := by
  obtain ⟨ds, h1, h2, h3⟩ := h
  refine ⟨ds, h1, h2, h3, ?_⟩
  by_cases h0 : ds = []
  · exact .inl h0
  · refine .inr fun b hb hm => ?_
    obtain ⟨p, c, rfl, _, _, hd, _⟩ := h1
    rcases hd with hd | ⟨b', t, cs, rfl, hr, _⟩
    · exact h0 hd
    · simp only [Value.ownBlock, Option.some.injEq] at hb
      subst hb
      have := lt_of_row hr
      have := hS _ hm
      omega
theorem NumS.add {S : List Nat} {w : World} {v : Value} {n : Nat} (h : NumS S w v n) {b : Nat} (hb : w.heap.size ≤ b) : NumS (b :: S) w v n := by
  obtain ⟨ds, h1, h2, h3, h4⟩ := h
  have h5 := (NumV.off (S := [b]) ⟨ds, h1, h2, h3⟩ (by simpa using hb))
  refine ⟨ds, h1, h2, h3, ?_⟩
  rcases h4 with h4 | h4
  · exact .inl h4
  · by_cases h0 : ds = []
    · exact .inl h0
    · refine .inr fun b' hb' hm => ?_
      rcases List.mem_cons.1 hm with rfl | hm
      · obtain ⟨p, c, rfl, _, _, hd, _⟩ := h1
        rcases hd with hd | ⟨b2, t, cs, rfl, hr, _⟩
        · exact h0 hd
        · simp only [Value.ownBlock, Option.some.injEq] at hb'
          subst hb'
          have := lt_of_row hr
          omega
      · exact h4 b' hb' hm
theorem NumS.mono {S S' : List Nat} {w : World} {v : Value} {n : Nat} (h : NumS S w v n) (hs : ∀ b ∈ S', b ∈ S) : NumS S' w v n := by
  obtain ⟨ds, h1, h2, h3, h4⟩ := h
  exact ⟨ds, h1, h2, h3, h4.imp id fun h b hb hm => h b hb (hs b hm)⟩
theorem NatV.keptB {w w' : World} {v : Value} {ds : List Nat} {b : Nat} (h : NatV w v ds) (k : Kept [b] w w') (hb : ds = [] ∨ v.ownBlock ≠ some b) : NatV w' v ds := by
  obtain ⟨p, c, rfl, h1, h2, hd, hs⟩ := h
  refine ⟨p, c, rfl, h1, h2, ?_, hs⟩
  rcases hd with hd | ⟨b2, t, cs, rfl, hr, hp⟩
  · exact .inl hd
  · rcases hb with hb | hb
    · exact .inl hb
    · refine .inr ⟨b2, t, cs, rfl, k.row hr ?_, hp⟩
      simp only [Value.ownBlock, ne_eq, Option.some.injEq] at hb
      simpa using hb
theorem NumS.keptB {S : List Nat} {w w' : World} {v : Value} {n b : Nat} (h : NumS S w v n) (k : Kept [b] w w') (hb : b ∈ S) : NumS S w' v n := by
  obtain ⟨ds, h1, h2, h3, h4⟩ := h
  exact ⟨ds, h1.keptB k (h4.imp id fun h e => h b e hb), h2, h3, h4⟩
end Go.Own
namespace Go.Proofs.YgcsalGreat
open Go.RowKit Go.Own
set_option maxHeartbeats 1000000 in
set_option maxRecDepth 100000 in
theorem clip_own (v : Value) (ds : List Nat) (w : World) (hv : NatV w v ds) :
    Calls Salg.prog 155 #[v] w fun e w' => ∃ u, e = .returned u ∧ NatV w u (tr ds) ∧ (∀ b, u.ownBlock = some b → v.ownBlock = some b) ∧ w' = w := by
  obtain ⟨p, c, rfl, hc, hc', hd, hs⟩ := hv
  have HD := hid hd
  have HTR : Hid ((ds.take (tl ds ds.length)).length = tl ds ds.length) := tr_length ds
  have HSM : Hid (Small (ds.take (tl ds ds.length))) := hs.tr
  have HDT := hid (hd.take (tl ds ds.length))
  clear hd hs
  have htl := tl_le ds ds.length
  have HTRIM := hid (trim_any p c ds w hc hc' HD.out)
  rw [show tr ds = ds.take (tl ds ds.length) from rfl]
  generalize tl ds ds.length = k at *
  by_cases h0 : k = 0
  · subst h0
    go_enter Salg.func155, Salg.ntmps155
    go_wp2_with (go_at_call 154; refine HTRIM.out.mono ?_; rintro e w1 ⟨rfl, rfl⟩)
    go_ret
    exact ⟨_, rfl, NatV.nil _, (by intro b hb; cases hb), rfl⟩
  · have hpos : 0 < k := by omega
    go_enter Salg.func155, Salg.ntmps155
    go_wp2_with (first
      | (go_at_call 154; refine HTRIM.out.mono ?_; rintro e w1 ⟨rfl, rfl⟩)
      | ((with_reducible apply W_slice3); rfl; rfl; rfl; rfl; rfl; exact Salg.underlying89; exact hasSize5; omega; simp only [Act.put, List.setIfInBounds_toArray, List.set_cons_zero, List.set_cons_succ]))
    go_ret
    refine ⟨_, rfl, ⟨p, k, ?_, by rw [HTR.out]; omega, by omega, HDT.out, HSM.out⟩, (fun b hb => by revert hb; cases p <;> exact fun h => h), rfl⟩
    rw [HTR.out]
    rfl
theorem norm_fresh (v : Value) (N : Nat) (w : World) (hN : NumV w v N) : Calls Salg.prog 158 #[v] w fun e w' => ∃ u, e = .returned u ∧ NumF w w' u N ∧ Kept [] w w' := by
  obtain ⟨ds, h1, h2, rfl⟩ := hN
  refine (norm_own v ds w h1).mono ?_
  rintro e w' ⟨u, rfl, h, K⟩
  refine ⟨u, rfl, ?_, K⟩
  rcases h with ⟨h0, rfl⟩ | ⟨b, t, rfl, hb, hr⟩
  · have : val ds = 0 := by rw [← tr_val, h0]; rfl
    rw [this]
    exact nil_numF _ _
  · refine ⟨tr ds, NatV.row hr h1.small.tr ?_, tr_tight _, tr_val _, .inr fun b' hb' => ?_⟩
    · obtain ⟨p, c, _, h3, h4, _⟩ := h1
      have := tr_length ds
      have := tl_le ds ds.length
      omega
    · simp only [Value.ownBlock, Option.some.injEq] at hb'
      subst hb'
      exact hb
set_option maxHeartbeats 4000000 in
set_option maxRecDepth 100000 in
theorem add_freshD (v u : Value) (ds es : List Nat) (w : World) (hv : NatV w v ds) (hu : NatV w u es) (hds : ds.length ≤ 1000) (hes : es.length ≤ 1000) :
    Calls Salg.prog 68 #[v, u] w fun e w' => ∃ r, e = .returned r ∧ NumF w w' r (val ds + val es) ∧ Kept [] w w' := by
  obtain ⟨p, c, rfl, hc, hc', hd, hs⟩ := hv
  obtain ⟨q, c2, rfl, hk, hk', hd', hs'⟩ := hu
  have HTRIM := hid (trim_any p c ds w hc hc' hd)
  have HTRIM' := hid (trim_any q c2 es w hk hk' hd')
  have hbA := tl_le ds ds.length
  have hbB := tl_le es es.length
  have HDT := hid (hd.take (tl ds ds.length))
  have HDT' := hid (hd'.take (tl es es.length))
  have HSM : Hid (Small (ds.take (tl ds ds.length))) := hs.take _
  have HSM' : Hid (Small (es.take (tl es es.length))) := hs'.take _
  have HTR : Hid ((ds.take (tl ds ds.length)).length = tl ds ds.length) := tr_length ds
  have HTR' : Hid ((es.take (tl es es.length)).length = tl es es.length) := tr_length es
  rw [← tr_val ds, ← tr_val es, show tr ds = ds.take (tl ds ds.length) from rfl, show tr es = es.take (tl es es.length) from rfl]
  clear hd hd' hs hs'
  generalize tl ds ds.length = k at *
  generalize tl es es.length = j at *
  generalize ds.take k = A at *
  generalize es.take j = B at *
  have M := Mem.start w []
  by_cases hkj : k < j
  · have dkj : decide ((k : Int) < (j : Int)) = true := by simp; omega
    go_enter Salg.func68, Salg.ntmps68
    go_wp2_with fail
    refine HTRIM.out.mono ?_; rintro e w1 ⟨rfl, rfl⟩
    go_wp2_with fail
    refine HTRIM'.out.mono ?_; rintro e w1 ⟨rfl, rfl⟩
    go_wp2_with (first
      | ((with_reducible apply W_make8 (dst := 23) (n := j + 1) M); rfl; rfl; omega; omega; omega; exact Salg.underlying89; exact info5; clear M; intro b1 w2 hb1 M; simp only [Act.put, List.setIfInBounds_toArray, List.set_cons_zero, List.set_cons_succ]))
    go_loopw [6, 26] (fun cv iv wr => ∃ (i c : Nat) (cur : List Nat), i ≤ j ∧ iv = .int .i64 i ∧ cv = .int .u16 c ∧ c ≤ 1 ∧ cur.length = j + 1 ∧ Small cur ∧
        val (cur.take i) + 256 ^ i * c = val (B.take i) + val (A.take i) ∧ Mem w1 [] [(b1, R8 5 cur)] wr) (fun _ iv _ => j - (intOf iv).toNat)
    case atStart => exact ⟨0, 0, _, by omega, rfl, rfl, by omega, by simp, small_replicate _, by simp [val], M⟩
    case round =>
      clear M
      obtain ⟨i, c, cur, hi, rfl, rfl, hc, hcl, hcs, hcv, M⟩ := hrel
      have HCS := hid hcs
      have HCV := hid hcv
      clear hcs hcv
      have hic : i < cur.length := by omega
      have HST := hid (fun y => val_set_take (l := cur) y hic)
      by_cases hik : i < j
      · have hiA : i < B.length := by rw [HTR'.out]; omega
        obtain ⟨b, t, cs, rfl, hr, hpre⟩ := HDT'.out.at hiA
        have hga := pre_get hpre hiA
        have hxa := HSM'.out.get hiA
        have HTA := hid (val_take_succ hiA)
        generalize B[i] = x at *
        by_cases hij : i < k
        · have hiB : i < A.length := by rw [HTR.out]; omega
          obtain ⟨b', t', cs', rfl, hr', hpre'⟩ := HDT.out.at hiB
          have hgb := pre_get hpre' hiB
          have hyb := HSM.out.get hiB
          have HTB := hid (val_take_succ hiB)
          generalize A[i] = y at *
          have dij : decide ((i : Int) < (k : Int)) = true := by simp; omega
          go_wp2_with (first
            | ((with_reducible apply W_loadCell); rfl; (first | with_reducible exact M.r0 | with_reducible exact M.r1 | with_reducible exact M.r2 | with_reducible exact M.r3 | with_reducible exact M.r4 | with_reducible exact M.r5 | with_reducible exact M.r6 | assumption | exact M.kept.row (by assumption) (by simp)); (first | exact get_map (by assumption) | exact get_map rfl | rfl); exact Salg.underlying5; rfl; simp only [Act.put, List.setIfInBounds_toArray, List.set_cons_zero, List.set_cons_succ])
            | ((with_reducible apply W_st8_0 (m := (c + x + y) % 256)); rfl; rfl; omega; exact M; exact Or.inr hb1; exact size5; omega; clear M; intro w2 M))
          go_roundw
          case rel =>
            refine ⟨i + 1, (c + x + y) / 256, cur.set i ((c + x + y) % 256), by omega, by go_num, by go_num, by omega, by simp [hcl], HCS.out.set (by omega), ?_, M⟩
            rw [HST.out, HTA.out, HTB.out, pow256_succ]
            exact addn_step HCV.out
          case measure => simp [intOf]; omega
        · have HTB : Hid (val (A.take (i + 1)) = val (A.take i)) := by show _ = _; rw [List.take_of_length_le (by rw [HTR.out]; omega), List.take_of_length_le (by rw [HTR.out]; omega)]
          have dij : decide ((i : Int) < (k : Int)) = false := by simp; omega
          go_wp2_with (first
            | ((with_reducible apply W_loadCell); rfl; (first | with_reducible exact M.r0 | with_reducible exact M.r1 | with_reducible exact M.r2 | with_reducible exact M.r3 | with_reducible exact M.r4 | with_reducible exact M.r5 | with_reducible exact M.r6 | assumption | exact M.kept.row (by assumption) (by simp)); (first | exact get_map (by assumption) | exact get_map rfl | rfl); exact Salg.underlying5; rfl; simp only [Act.put, List.setIfInBounds_toArray, List.set_cons_zero, List.set_cons_succ])
            | ((with_reducible apply W_st8_0 (m := (c + x) % 256)); rfl; rfl; omega; exact M; exact Or.inr hb1; exact size5; omega; clear M; intro w2 M))
          go_roundw
          case rel =>
            refine ⟨i + 1, (c + x) / 256, cur.set i ((c + x) % 256), by omega, by go_num, by go_num, by omega, by simp [hcl], HCS.out.set (by omega), ?_, M⟩
            rw [HST.out, HTA.out, HTB.out, pow256_succ]
            have h := addn_step (x := x) (y := 0) HCV.out
            rw [Nat.add_zero, Nat.mul_zero, Nat.add_zero] at h
            exact h
          case measure => simp [intOf]; omega
      · have hik' : i = j := by omega
        subst hik'
        go_wp2_with ((with_reducible apply W_st8_0 (m := c)); rfl; rfl; omega; exact M; exact Or.inr hb1; exact size5; omega; clear M; intro w2 M)
        have hLs : Small (cur.set i c) := HCS.out.set (by omega)
        have e1 : (cur.set i c).take (i + 1) = cur.set i c := List.take_of_length_le (by simp; omega)
        have HV : Hid (val (cur.set i c) = val B + val A) := by
          show _ = _
          rw [← e1, HST.out, HCV.out, List.take_of_length_le (by rw [HTR'.out]; omega), List.take_of_length_le (by rw [HTR.out]; omega)]
        have hsl : (cur.set i c).length = i + 1 := by simp [hcl]
        clear e1 HST
        generalize cur.set i c = out at *
        have HN := hid (NatV.row M.r0 hLs (by omega))
        rw [hsl] at HN
        go_wp2_with fail
        refine (clip_own _ out _ HN.out).mono ?_
        rintro e w3 ⟨r, rfl, hr, hob, rfl⟩
        have HR := hid hr
        clear hr
        go_wp2_with fail
        go_ret
        exact ⟨_, rfl, ⟨_, HR.out, tr_tight _, by rw [tr_val, HV.out, Nat.add_comm], .inr fun b hb => by have := hob b hb; simp only [Value.ownBlock, Option.some.injEq] at this; subst this; exact hb1⟩, M.kept⟩
  · have dkj : decide ((k : Int) < (j : Int)) = false := by simp; omega
    go_enter Salg.func68, Salg.ntmps68
    go_wp2_with fail
    refine HTRIM.out.mono ?_; rintro e w1 ⟨rfl, rfl⟩
    go_wp2_with fail
    refine HTRIM'.out.mono ?_; rintro e w1 ⟨rfl, rfl⟩
    go_wp2_with (first
      | ((with_reducible apply W_make8 (dst := 23) (n := k + 1) M); rfl; rfl; omega; omega; omega; exact Salg.underlying89; exact info5; clear M; intro b1 w2 hb1 M; simp only [Act.put, List.setIfInBounds_toArray, List.set_cons_zero, List.set_cons_succ]))
    go_loopw [6, 26] (fun cv iv wr => ∃ (i c : Nat) (cur : List Nat), i ≤ k ∧ iv = .int .i64 i ∧ cv = .int .u16 c ∧ c ≤ 1 ∧ cur.length = k + 1 ∧ Small cur ∧
        val (cur.take i) + 256 ^ i * c = val (A.take i) + val (B.take i) ∧ Mem w1 [] [(b1, R8 5 cur)] wr) (fun _ iv _ => k - (intOf iv).toNat)
    case atStart => exact ⟨0, 0, _, by omega, rfl, rfl, by omega, by simp, small_replicate _, by simp [val], M⟩
    case round =>
      clear M
      obtain ⟨i, c, cur, hi, rfl, rfl, hc, hcl, hcs, hcv, M⟩ := hrel
      have HCS := hid hcs
      have HCV := hid hcv
      clear hcs hcv
      have hic : i < cur.length := by omega
      have HST := hid (fun y => val_set_take (l := cur) y hic)
      by_cases hik : i < k
      · have hiA : i < A.length := by rw [HTR.out]; omega
        obtain ⟨b, t, cs, rfl, hr, hpre⟩ := HDT.out.at hiA
        have hga := pre_get hpre hiA
        have hxa := HSM.out.get hiA
        have HTA := hid (val_take_succ hiA)
        generalize A[i] = x at *
        by_cases hij : i < j
        · have hiB : i < B.length := by rw [HTR'.out]; omega
          obtain ⟨b', t', cs', rfl, hr', hpre'⟩ := HDT'.out.at hiB
          have hgb := pre_get hpre' hiB
          have hyb := HSM'.out.get hiB
          have HTB := hid (val_take_succ hiB)
          generalize B[i] = y at *
          have dij : decide ((i : Int) < (j : Int)) = true := by simp; omega
          go_wp2_with (first
            | ((with_reducible apply W_loadCell); rfl; (first | with_reducible exact M.r0 | with_reducible exact M.r1 | with_reducible exact M.r2 | with_reducible exact M.r3 | with_reducible exact M.r4 | with_reducible exact M.r5 | with_reducible exact M.r6 | assumption | exact M.kept.row (by assumption) (by simp)); (first | exact get_map (by assumption) | exact get_map rfl | rfl); exact Salg.underlying5; rfl; simp only [Act.put, List.setIfInBounds_toArray, List.set_cons_zero, List.set_cons_succ])
            | ((with_reducible apply W_st8_0 (m := (c + x + y) % 256)); rfl; rfl; omega; exact M; exact Or.inr hb1; exact size5; omega; clear M; intro w2 M))
          go_roundw
          case rel =>
            refine ⟨i + 1, (c + x + y) / 256, cur.set i ((c + x + y) % 256), by omega, by go_num, by go_num, by omega, by simp [hcl], HCS.out.set (by omega), ?_, M⟩
            rw [HST.out, HTA.out, HTB.out, pow256_succ]
            exact addn_step HCV.out
          case measure => simp [intOf]; omega
        · have HTB : Hid (val (B.take (i + 1)) = val (B.take i)) := by show _ = _; rw [List.take_of_length_le (by rw [HTR'.out]; omega), List.take_of_length_le (by rw [HTR'.out]; omega)]
          have dij : decide ((i : Int) < (j : Int)) = false := by simp; omega
          go_wp2_with (first
            | ((with_reducible apply W_loadCell); rfl; (first | with_reducible exact M.r0 | with_reducible exact M.r1 | with_reducible exact M.r2 | with_reducible exact M.r3 | with_reducible exact M.r4 | with_reducible exact M.r5 | with_reducible exact M.r6 | assumption | exact M.kept.row (by assumption) (by simp)); (first | exact get_map (by assumption) | exact get_map rfl | rfl); exact Salg.underlying5; rfl; simp only [Act.put, List.setIfInBounds_toArray, List.set_cons_zero, List.set_cons_succ])
            | ((with_reducible apply W_st8_0 (m := (c + x) % 256)); rfl; rfl; omega; exact M; exact Or.inr hb1; exact size5; omega; clear M; intro w2 M))
          go_roundw
          case rel =>
            refine ⟨i + 1, (c + x) / 256, cur.set i ((c + x) % 256), by omega, by go_num, by go_num, by omega, by simp [hcl], HCS.out.set (by omega), ?_, M⟩
            rw [HST.out, HTA.out, HTB.out, pow256_succ]
            have h := addn_step (x := x) (y := 0) HCV.out
            rw [Nat.add_zero, Nat.mul_zero, Nat.add_zero] at h
            exact h
          case measure => simp [intOf]; omega
      · have hik' : i = k := by omega
        subst hik'
        go_wp2_with ((with_reducible apply W_st8_0 (m := c)); rfl; rfl; omega; exact M; exact Or.inr hb1; exact size5; omega; clear M; intro w2 M)
        have hLs : Small (cur.set i c) := HCS.out.set (by omega)
        have e1 : (cur.set i c).take (i + 1) = cur.set i c := List.take_of_length_le (by simp; omega)
        have HV : Hid (val (cur.set i c) = val A + val B) := by
          show _ = _
          rw [← e1, HST.out, HCV.out, List.take_of_length_le (by rw [HTR.out]; omega), List.take_of_length_le (by rw [HTR'.out]; omega)]
        have hsl : (cur.set i c).length = i + 1 := by simp [hcl]
        clear e1 HST
        generalize cur.set i c = out at *
        have HN := hid (NatV.row M.r0 hLs (by omega))
        rw [hsl] at HN
        go_wp2_with fail
        refine (clip_own _ out _ HN.out).mono ?_
        rintro e w3 ⟨r, rfl, hr, hob, rfl⟩
        have HR := hid hr
        clear hr
        go_wp2_with fail
        go_ret
        exact ⟨_, rfl, ⟨_, HR.out, tr_tight _, by rw [tr_val, HV.out], .inr fun b hb => by have := hob b hb; simp only [Value.ownBlock, Option.some.injEq] at this; subst this; exact hb1⟩, M.kept⟩
theorem add_fresh (v u : Value) (m n : Nat) (w : World) (hv : NumV w v m) (hu : NumV w u n) (hm : m < 256 ^ 200) (hn : n < 256 ^ 200) :
    Calls Salg.prog 68 #[v, u] w fun e w' => ∃ r, e = .returned r ∧ NumF w w' r (m + n) ∧ Kept [] w w' := by
  obtain ⟨ds, h1, rfl, h2⟩ := hv.short hm
  obtain ⟨es, h3, rfl, h4⟩ := hu.short hn
  exact add_freshD v u ds es w h1 h3 (by omega) (by omega)
set_option maxHeartbeats 2000000 in
set_option maxRecDepth 100000 in
theorem sub_fresh (v u : Value) (m n : Nat) (w : World) (hv : NumV w v m) (hu : NumV w u n) (hm : m < 256 ^ 200) (hle : n ≤ m) :
    Calls Salg.prog 157 #[v, u] w fun e w' => ∃ r, e = .returned (.tuple #[r, .bool true]) ∧ NumF w w' r (m - n) ∧ Kept [] w w' := by
  have M := Mem.start w []
  obtain ⟨ds, h1, rfl, hdl⟩ := hv.short hm
  obtain ⟨es, h2, rfl, hel⟩ := hu.short (Nat.lt_of_le_of_lt hle hm)
  have HC := hid (cmp_any v u ds es w h1 h2)
  have hcd : decide (cmpI (val ds) (val es) < (0 : Int)) = false := by
    have : ¬ cmpI (val ds) (val es) < 0 := by rw [cmpI_neg]; omega
    simp; omega
  have HV := hid h1
  obtain ⟨q, c2, rfl, hk, hk', hd', hs'⟩ := h2
  have HDE := hid hd'
  have HSE := hid hs'
  have HLE := hid hle
  clear h1 hv hu hd' hs' hle
  generalize cmpI (val ds) (val es) = c at *
  go_enter Salg.func157, Salg.ntmps157
  go_wp2_with fail
  refine HC.out.mono ?_
  rintro e w1 ⟨rfl, K⟩
  have HV1 := hid (HV.out.kept K)
  have HDE1 := hid (HDE.out.kept K)
  replace M := M.call K
  clear K HV HDE HC
  go_wp2_with fail
  refine (norm_own v ds w1 HV1.out).mono ?_
  rintro e w2 ⟨o, rfl, ho, K⟩
  have HDE2 := hid (HDE1.out.kept K)
  have hsz := M.kept.size
  have M2 := M.call K
  have HQB : Hid (∀ b, w1.heap.size ≤ b → es.take (tl es es.length) ≠ [] → q.map (·.block) ≠ some b) := fun b hb hne => by
    have hpos : 0 < es.length := by
      rcases Nat.eq_zero_or_pos es.length with h | h
      · exfalso; apply hne; rw [List.length_eq_zero_iff.1 h]; rfl
      · exact h
    obtain ⟨b', t', cs', hq, hr', _⟩ := HDE1.out.at (i := 0) hpos
    have := lt_of_row hr'
    rw [hq]; simp; omega
  have HTL := hid (tr_length es)
  have hte := tl_le es es.length
  have HTRIM := hid (trim_any q c2 es w2 hk hk' HDE2.out)
  rcases ho with ⟨h0, rfl⟩ | ⟨b, t, rfl, hb, hrow⟩
  · have hz : val ds = 0 := by rw [← tr_val, h0]; rfl
    have HZ := hid hz
    clear hz h0 K M
    go_wp2_with fail
    refine HTRIM.out.mono ?_
    rintro e w3 ⟨rfl, rfl⟩
    go_wp2_with fail
    refine (take_nil _ _).mono ?_
    rintro e w3 ⟨v, rfl, rfl⟩
    go_wp2_with fail
    refine (clip_own _ [] _ (NatV.nil _)).mono ?_
    rintro e w3 ⟨r, rfl, hr, hob, rfl⟩
    have HR := hid hr
    clear hr
    go_wp2_with fail
    go_ret2
    refine ⟨_, rfl, ⟨_, HR.out, tr_tight _, ?_, .inl rfl⟩, M2.kept⟩
    rw [HZ.out, Nat.zero_sub]; rfl
  · have hL : (tr es).length ≤ (tr ds).length := by
      rcases Nat.lt_or_ge (tr ds).length (tr es).length with h | h
      · exfalso
        have := tight_lt (HV1.out.small.tr) (tr_tight es) h
        rw [tr_val, tr_val] at this
        have := HLE.out
        omega
      · exact h
    have hdl' : (tr ds).length ≤ 200 := by have := tr_length ds; have := tl_le ds ds.length; omega
    have HTK := hid (take_any b t q (tl es es.length) (tr ds) (es.take (tl es es.length)) w2 hrow HV1.out.small.tr (by omega) (by rw [show (es.take (tl es es.length)).length = tl es es.length from HTL.out]; exact Nat.le_refl _) (by omega) hL (HDE2.out.take _) HSE.out.tr (HQB.out b hb))
    have HE : Hid ((es.take (tl es es.length)).length = tl es es.length) := HTL.out
    rw [HE.out] at HTK
    have HVD := hid (tr_val ds)
    have HVE : Hid (val (es.take (tl es es.length)) = val es) := tr_val es
    have hbw : w.heap.size ≤ b := by omega
    have M3 := M2.add hrow (by simp)
    generalize tl es es.length = L at *
    have HDL := hid hdl'
    clear M M2 K hL
    generalize tr ds = A at *
    generalize es.take L = B at *
    go_wp2_with fail
    refine HTRIM.out.mono ?_
    rintro e w3 ⟨rfl, rfl⟩
    go_wp2_with fail
    refine HTK.out.mono ?_
    rintro e w4 ⟨r, cur, rfl, hr1, hcl, hcs, hcv, K, hrow'⟩
    have HCV := hid hcv
    have HCS := hid hcs
    replace M3 := Mem.callPut (L1 := []) M3 (Or.inr hbw) K hrow'
    rw [List.nil_append] at M3
    clear K hrow' hcv hcs
    have HN := hid (NatV.row M3.r0 HCS.out (by omega))
    rw [hcl] at HN
    go_wp2_with fail
    refine (clip_own _ cur _ HN.out).mono ?_
    rintro e w5 ⟨r', rfl, hr', hob, rfl⟩
    have HR := hid hr'
    clear hr'
    go_wp2_with fail
    go_ret2
    refine ⟨_, rfl, ⟨_, HR.out, tr_tight _, ?_, .inr fun b' hb' => by have := hob b' hb'; simp only [Value.ownBlock, Option.some.injEq] at this; subst this; exact hbw⟩, M3.kept⟩
    rw [tr_val]
    have h1 := HCV.out
    rw [HVE.out, HVD.out] at h1
    have h2 := val_lt HCS.out
    rw [hcl] at h2
    have h3 := HLE.out
    rcases (show r = 0 ∨ r = 1 by omega) with rfl | rfl
    · omega
    · exfalso; omega
theorem norm_fresh' (v : Value) (ds : List Nat) (w : World) (h1 : NatV w v ds) : Calls Salg.prog 158 #[v] w fun e w' => ∃ u, e = .returned u ∧ NumF w w' u (val ds) ∧ Kept [] w w' := by
  refine (norm_own v ds w h1).mono ?_
  rintro e w' ⟨u, rfl, h, K⟩
  refine ⟨u, rfl, ?_, K⟩
  rcases h with ⟨h0, rfl⟩ | ⟨b, t, rfl, hb, hr⟩
  · have : val ds = 0 := by rw [← tr_val, h0]; rfl
    rw [this]
    exact nil_numF _ _
  · refine ⟨tr ds, NatV.row hr h1.small.tr ?_, tr_tight _, tr_val _, .inr fun b' hb' => ?_⟩
    · obtain ⟨p, c, _, h3, h4, _⟩ := h1
      have := tr_length ds
      have := tl_le ds ds.length
      omega
    · simp only [Value.ownBlock, Option.some.injEq] at hb'
      subst hb'
      exact hb
set_option maxHeartbeats 2000000 in
set_option maxRecDepth 100000 in
theorem fromU64_fresh (x : Nat) (hx : x < 18446744073709551616) (w : World) :
    Calls Salg.prog 77 #[.int .u64 x] w fun e w' => ∃ r, e = .returned r ∧ NumF w w' r x ∧ Kept [] w w' := by
  have M := Mem.start w []
  go_enter Salg.func77, Salg.ntmps77
  go_wp2_with ((with_reducible apply L_allocA (d := 3) M); exact zero33; clear M; intro b1 w1 hb1 M; simp only [Act.put, List.setIfInBounds_toArray, List.set_cons_zero, List.set_cons_succ])
  go_loopw [0, 5] (fun xv iv wr => ∃ i : Nat, i ≤ 8 ∧ iv = .int .i64 i ∧ xv = .int .u64 ((x / 256 ^ i : Nat) : Int) ∧ Mem w [] [(b1, R8 33 (bd x i ++ List.replicate (8 - i) 0))] wr) (fun _ iv _ => 8 - (intOf iv).toNat)
  case atStart => exact ⟨0, by omega, rfl, by simp, M⟩
  case round =>
    clear M
    obtain ⟨i, hi, rfl, rfl, M⟩ := hrel
    by_cases hi8 : i < 8
    · have HF := hid (fill_set (l := bd x i) (n := 8) (x / 256 ^ i % 256) (bd_length x i) hi8)
      have HN : Hid (x / 256 ^ i / 256 = x / 256 ^ (i + 1)) := by show _ = _; rw [Nat.div_div_eq_div_mul, Nat.pow_succ]
      have HB := hid (bd_succ x i)
      have hll : (bd x i ++ List.replicate (8 - i) 0).length = 8 := by simp [bd_length]; omega
      have hdb : x / 256 ^ i < 18446744073709551616 := Nat.lt_of_le_of_lt (Nat.div_le_self _ _) hx
      rw [← HB.out] at HF
      generalize x / 256 ^ i = d at *
      go_wp2_with ((with_reducible apply W_st8_0 (m := d % 256)); rfl; rfl; omega; exact M; exact Or.inr hb1; exact size5; omega; clear M; intro w2 M)
      rw [HF.out] at M
      go_roundw
      case rel => exact ⟨i + 1, by omega, by go_num, by rw [← HN.out]; go_num, M⟩
      case measure => simp [intOf]; omega
    · have hi' : i = 8 := by omega
      subst hi'
      have hv : val (bd x 8) = x := by rw [bd_val]; exact Nat.mod_eq_of_lt hx
      have HV := hid hv
      have hl8 := bd_length x 8
      have hs8 := bd_small x 8
      simp only [Nat.sub_self, List.replicate_zero, List.append_nil] at M
      clear hv
      generalize bd x 8 = l at *
      have HN := hid (NatV.row M.r0 hs8 (by omega))
      rw [hl8] at HN
      go_wp2_with ((with_reducible apply W_sliceArr (l := 0) (h := 8) (m := 8)); rfl; exact Salg.underlying33; exact size5; (first | exact Or.inl ⟨rfl, rfl⟩ | exact Or.inr ⟨_, _, _, rfl, rfl, by omega⟩); (first | exact Or.inl ⟨rfl, rfl⟩ | exact Or.inr ⟨_, _, _, rfl, rfl, by omega⟩); (first | exact Or.inl ⟨rfl, rfl⟩ | exact Or.inr ⟨_, _, _, rfl, rfl, by omega⟩); (first | exact Or.inl rfl | exact Or.inr rfl); omega; omega; omega; omega; (try simp only [Nat.zero_add, Nat.sub_zero]); simp only [Act.put, List.setIfInBounds_toArray, List.set_cons_zero, List.set_cons_succ])
      have hmw := M.kept.size
      refine (norm_fresh' _ l _ HN.out).mono ?_
      rintro e w3 ⟨r, rfl, hr, K⟩
      have HR := hid hr
      replace M := M.call K
      clear hr K
      go_wp2_with fail
      go_ret
      refine ⟨_, rfl, ?_, M.kept⟩
      have h := HR.out.older hmw
      rw [HV.out] at h
      exact h
set_option maxHeartbeats 2000000 in
set_option maxRecDepth 100000 in
theorem less_fresh (v u : Value) (m n : Nat) (w : World) (hv : NumV w v m) (hu : NumV w u n) (hm : m < 256 ^ 200) (hle : n ≤ m) : Calls Salg.prog 88 #[v, u] w fun e w' => ∃ r, e = .returned r ∧ NumF w w' r (m - n) ∧ Kept [] w w' := by
  have M := Mem.start w []
  have HC := hid (sub_fresh v u m n w hv hu hm hle)
  clear hv hu
  go_enter Salg.func88, Salg.ntmps88
  go_wp2_with fail
  refine (HC.out).mono ?_
  rintro e w2 ⟨R, rfl, xHR, K⟩
  have HR := hid xHR
  replace M := M.call K
  clear K xHR
  go_wp2_with fail
  go_ret
  exact ⟨_, rfl, HR.out, M.kept⟩
set_option maxHeartbeats 2000000 in
set_option maxRecDepth 100000 in
theorem num_freshN (x : Nat) (hx : x < 18446744073709551616) (w : World) : Calls Salg.prog 87 #[.int .u64 x] w fun e w' => ∃ r, e = .returned r ∧ NumF w w' r (x) ∧ Kept [] w w' := by
  have M := Mem.start w []
  go_enter Salg.func87, Salg.ntmps87
  go_wp2_with fail
  refine (fromU64_fresh x hx _).mono ?_
  rintro e w2 ⟨R, rfl, xHR, K⟩
  have HR := hid xHR
  replace M := M.call K
  clear K xHR
  go_wp2_with fail
  go_ret
  exact ⟨_, rfl, HR.out, M.kept⟩
theorem num_fresh (x : Int) (n : Nat) (h : x = n) (hx : n < 18446744073709551616) (w : World) : Calls Salg.prog 87 #[.int .u64 x] w fun e w' => ∃ r, e = .returned r ∧ NumF w w' r n ∧ Kept [] w w' := by
  subst h
  exact num_freshN n hx w
end Go.Proofs.YgcsalGreat

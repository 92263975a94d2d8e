/-
  The walk of nat.Add.
-/
import Derived.Test.YgcsalGreatNat4
set_option linter.unusedSimpArgs false
namespace Go.Own
theorem val_set_take {l : List Nat} {k : Nat} (y : Nat) (h : k < l.length) : val ((l.set k y).take (k + 1)) = val (l.take k) + 256 ^ k * y := by
  rw [val_take_succ (by simpa using h), List.getElem_set_self, List.take_set_of_le (Nat.le_refl k)]
theorem addn_step {C D E p c x y : Nat} (h : C + p * c = D + E) : (C + p * ((c + x + y) % 256)) + 256 * p * ((c + x + y) / 256) = (D + p * x) + (E + p * y) := by
  have h2 : p * ((c + x + y) % 256) + 256 * p * ((c + x + y) / 256) = p * (c + x + y) := by
    rw [Nat.mul_comm 256 p, Nat.mul_assoc, ← Nat.mul_add, Nat.add_comm (_ % _), Nat.div_add_mod]
  rw [Nat.mul_add, Nat.mul_add] at h2
  omega
end Go.Own
namespace Go.Proofs.YgcsalGreat
open Go.RowKit Go.Own

set_option maxHeartbeats 4000000 in
set_option maxRecDepth 100000 in
theorem add_any (v u : Value) (ds es : List Nat) (w : World) (hv : NatV w v ds) (hu : NatV w u es) (hds : ds.length ≤ 1000) (hes : es.length ≤ 1000) :
    Calls Salg.prog 68 #[v, u] w fun e w' => ∃ r, e = .returned r ∧ NumV w' r (val ds + val es) ∧ Kept [] w w' := by
  obtain ⟨p, c, rfl, hc, hc', hd, hs⟩ := hv
  obtain ⟨q, c2, rfl, hk, hk', hd', hs'⟩ := hu
  have HTRIM := hid (trim_any p c ds w hc hc' hd)
  have HTRIM' := hid (trim_any q c2 es w hk hk' hd')
  have hbA := tl_le ds ds.length
  have hbB := tl_le es es.length
  have HDT := hid (hd.take (tl ds ds.length))
  have HDT' := hid (hd'.take (tl es es.length))
  have HSM : Hid (Small (ds.take (tl ds ds.length))) := hs.take _
  have HSM' : Hid (Small (es.take (tl es es.length))) := hs'.take _
  have HTR : Hid ((ds.take (tl ds ds.length)).length = tl ds ds.length) := tr_length ds
  have HTR' : Hid ((es.take (tl es es.length)).length = tl es es.length) := tr_length es
  rw [← tr_val ds, ← tr_val es, show tr ds = ds.take (tl ds ds.length) from rfl, show tr es = es.take (tl es es.length) from rfl]
  clear hd hd' hs hs'
  generalize tl ds ds.length = k at *
  generalize tl es es.length = j at *
  generalize ds.take k = A at *
  generalize es.take j = B at *
  have M := Mem.start w []
  by_cases hkj : k < j
  · have dkj : decide ((k : Int) < (j : Int)) = true := by simp; omega
    go_enter Salg.func68, Salg.ntmps68
    go_wp2_with fail
    refine HTRIM.out.mono ?_; rintro e w1 ⟨rfl, rfl⟩
    go_wp2_with fail
    refine HTRIM'.out.mono ?_; rintro e w1 ⟨rfl, rfl⟩
    go_wp2_with (first
      | ((with_reducible apply W_make8 (dst := 23) (n := j + 1) M); rfl; rfl; omega; omega; omega; exact Salg.underlying89; exact info5; clear M; intro b1 w2 hb1 M; simp only [Act.put, List.setIfInBounds_toArray, List.set_cons_zero, List.set_cons_succ]))
    go_loopw [6, 26] (fun cv iv wr => ∃ (i c : Nat) (cur : List Nat), i ≤ j ∧ iv = .int .i64 i ∧ cv = .int .u16 c ∧ c ≤ 1 ∧ cur.length = j + 1 ∧ Small cur ∧
        val (cur.take i) + 256 ^ i * c = val (B.take i) + val (A.take i) ∧ Mem w1 [] [(b1, R8 5 cur)] wr) (fun _ iv _ => j - (intOf iv).toNat)
    case atStart => exact ⟨0, 0, _, by omega, rfl, rfl, by omega, by simp, small_replicate _, by simp [val], M⟩
    case round =>
      clear M
      obtain ⟨i, c, cur, hi, rfl, rfl, hc, hcl, hcs, hcv, M⟩ := hrel
      have HCS := hid hcs
      have HCV := hid hcv
      clear hcs hcv
      have hic : i < cur.length := by omega
      have HST := hid (fun y => val_set_take (l := cur) y hic)
      by_cases hik : i < j
      · have hiA : i < B.length := by rw [HTR'.out]; omega
        obtain ⟨b, t, cs, rfl, hr, hpre⟩ := HDT'.out.at hiA
        have hga := pre_get hpre hiA
        have hxa := HSM'.out.get hiA
        have HTA := hid (val_take_succ hiA)
        generalize B[i] = x at *
        by_cases hij : i < k
        · have hiB : i < A.length := by rw [HTR.out]; omega
          obtain ⟨b', t', cs', rfl, hr', hpre'⟩ := HDT.out.at hiB
          have hgb := pre_get hpre' hiB
          have hyb := HSM.out.get hiB
          have HTB := hid (val_take_succ hiB)
          generalize A[i] = y at *
          have dij : decide ((i : Int) < (k : Int)) = true := by simp; omega
          go_wp2_with (first
            | ((with_reducible apply W_loadCell); rfl; (first | with_reducible exact M.r0 | with_reducible exact M.r1 | with_reducible exact M.r2 | with_reducible exact M.r3 | with_reducible exact M.r4 | with_reducible exact M.r5 | with_reducible exact M.r6 | assumption | exact M.kept.row (by assumption) (by simp)); (first | exact get_map (by assumption) | exact get_map rfl | rfl); exact Salg.underlying5; rfl; simp only [Act.put, List.setIfInBounds_toArray, List.set_cons_zero, List.set_cons_succ])
            | ((with_reducible apply W_st8_0 (m := (c + x + y) % 256)); rfl; rfl; omega; exact M; exact Or.inr hb1; exact size5; omega; clear M; intro w2 M))
          go_roundw
          case rel =>
            refine ⟨i + 1, (c + x + y) / 256, cur.set i ((c + x + y) % 256), by omega, by go_num, by go_num, by omega, by simp [hcl], HCS.out.set (by omega), ?_, M⟩
            rw [HST.out, HTA.out, HTB.out, pow256_succ]
            exact addn_step HCV.out
          case measure => simp [intOf]; omega
        · have HTB : Hid (val (A.take (i + 1)) = val (A.take i)) := by show _ = _; rw [List.take_of_length_le (by rw [HTR.out]; omega), List.take_of_length_le (by rw [HTR.out]; omega)]
          have dij : decide ((i : Int) < (k : Int)) = false := by simp; omega
          go_wp2_with (first
            | ((with_reducible apply W_loadCell); rfl; (first | with_reducible exact M.r0 | with_reducible exact M.r1 | with_reducible exact M.r2 | with_reducible exact M.r3 | with_reducible exact M.r4 | with_reducible exact M.r5 | with_reducible exact M.r6 | assumption | exact M.kept.row (by assumption) (by simp)); (first | exact get_map (by assumption) | exact get_map rfl | rfl); exact Salg.underlying5; rfl; simp only [Act.put, List.setIfInBounds_toArray, List.set_cons_zero, List.set_cons_succ])
            | ((with_reducible apply W_st8_0 (m := (c + x) % 256)); rfl; rfl; omega; exact M; exact Or.inr hb1; exact size5; omega; clear M; intro w2 M))
          go_roundw
          case rel =>
            refine ⟨i + 1, (c + x) / 256, cur.set i ((c + x) % 256), by omega, by go_num, by go_num, by omega, by simp [hcl], HCS.out.set (by omega), ?_, M⟩
            rw [HST.out, HTA.out, HTB.out, pow256_succ]
            have h := addn_step (x := x) (y := 0) HCV.out
            rw [Nat.add_zero, Nat.mul_zero, Nat.add_zero] at h
            exact h
          case measure => simp [intOf]; omega
      · have hik' : i = j := by omega
        subst hik'
        go_wp2_with ((with_reducible apply W_st8_0 (m := c)); rfl; rfl; omega; exact M; exact Or.inr hb1; exact size5; omega; clear M; intro w2 M)
        have hLs : Small (cur.set i c) := HCS.out.set (by omega)
        have e1 : (cur.set i c).take (i + 1) = cur.set i c := List.take_of_length_le (by simp; omega)
        have HV : Hid (val (cur.set i c) = val B + val A) := by
          show _ = _
          rw [← e1, HST.out, HCV.out, List.take_of_length_le (by rw [HTR'.out]; omega), List.take_of_length_le (by rw [HTR.out]; omega)]
        have hsl : (cur.set i c).length = i + 1 := by simp [hcl]
        clear e1 HST
        generalize cur.set i c = out at *
        have HN := hid (NatV.row M.r0 hLs (by omega))
        rw [hsl] at HN
        go_wp2_with fail
        refine (clip_any _ out _ HN.out).mono ?_
        rintro e w3 ⟨r, rfl, hr, rfl⟩
        have HR := hid hr
        clear hr
        go_wp2_with fail
        go_ret
        exact ⟨_, rfl, ⟨_, HR.out, tr_tight _, by rw [tr_val, HV.out, Nat.add_comm]⟩, M.kept⟩
  · have dkj : decide ((k : Int) < (j : Int)) = false := by simp; omega
    go_enter Salg.func68, Salg.ntmps68
    go_wp2_with fail
    refine HTRIM.out.mono ?_; rintro e w1 ⟨rfl, rfl⟩
    go_wp2_with fail
    refine HTRIM'.out.mono ?_; rintro e w1 ⟨rfl, rfl⟩
    go_wp2_with (first
      | ((with_reducible apply W_make8 (dst := 23) (n := k + 1) M); rfl; rfl; omega; omega; omega; exact Salg.underlying89; exact info5; clear M; intro b1 w2 hb1 M; simp only [Act.put, List.setIfInBounds_toArray, List.set_cons_zero, List.set_cons_succ]))
    go_loopw [6, 26] (fun cv iv wr => ∃ (i c : Nat) (cur : List Nat), i ≤ k ∧ iv = .int .i64 i ∧ cv = .int .u16 c ∧ c ≤ 1 ∧ cur.length = k + 1 ∧ Small cur ∧
        val (cur.take i) + 256 ^ i * c = val (A.take i) + val (B.take i) ∧ Mem w1 [] [(b1, R8 5 cur)] wr) (fun _ iv _ => k - (intOf iv).toNat)
    case atStart => exact ⟨0, 0, _, by omega, rfl, rfl, by omega, by simp, small_replicate _, by simp [val], M⟩
    case round =>
      clear M
      obtain ⟨i, c, cur, hi, rfl, rfl, hc, hcl, hcs, hcv, M⟩ := hrel
      have HCS := hid hcs
      have HCV := hid hcv
      clear hcs hcv
      have hic : i < cur.length := by omega
      have HST := hid (fun y => val_set_take (l := cur) y hic)
      by_cases hik : i < k
      · have hiA : i < A.length := by rw [HTR.out]; omega
        obtain ⟨b, t, cs, rfl, hr, hpre⟩ := HDT.out.at hiA
        have hga := pre_get hpre hiA
        have hxa := HSM.out.get hiA
        have HTA := hid (val_take_succ hiA)
        generalize A[i] = x at *
        by_cases hij : i < j
        · have hiB : i < B.length := by rw [HTR'.out]; omega
          obtain ⟨b', t', cs', rfl, hr', hpre'⟩ := HDT'.out.at hiB
          have hgb := pre_get hpre' hiB
          have hyb := HSM'.out.get hiB
          have HTB := hid (val_take_succ hiB)
          generalize B[i] = y at *
          have dij : decide ((i : Int) < (j : Int)) = true := by simp; omega
          go_wp2_with (first
            | ((with_reducible apply W_loadCell); rfl; (first | with_reducible exact M.r0 | with_reducible exact M.r1 | with_reducible exact M.r2 | with_reducible exact M.r3 | with_reducible exact M.r4 | with_reducible exact M.r5 | with_reducible exact M.r6 | assumption | exact M.kept.row (by assumption) (by simp)); (first | exact get_map (by assumption) | exact get_map rfl | rfl); exact Salg.underlying5; rfl; simp only [Act.put, List.setIfInBounds_toArray, List.set_cons_zero, List.set_cons_succ])
            | ((with_reducible apply W_st8_0 (m := (c + x + y) % 256)); rfl; rfl; omega; exact M; exact Or.inr hb1; exact size5; omega; clear M; intro w2 M))
          go_roundw
          case rel =>
            refine ⟨i + 1, (c + x + y) / 256, cur.set i ((c + x + y) % 256), by omega, by go_num, by go_num, by omega, by simp [hcl], HCS.out.set (by omega), ?_, M⟩
            rw [HST.out, HTA.out, HTB.out, pow256_succ]
            exact addn_step HCV.out
          case measure => simp [intOf]; omega
        · have HTB : Hid (val (B.take (i + 1)) = val (B.take i)) := by show _ = _; rw [List.take_of_length_le (by rw [HTR'.out]; omega), List.take_of_length_le (by rw [HTR'.out]; omega)]
          have dij : decide ((i : Int) < (j : Int)) = false := by simp; omega
          go_wp2_with (first
            | ((with_reducible apply W_loadCell); rfl; (first | with_reducible exact M.r0 | with_reducible exact M.r1 | with_reducible exact M.r2 | with_reducible exact M.r3 | with_reducible exact M.r4 | with_reducible exact M.r5 | with_reducible exact M.r6 | assumption | exact M.kept.row (by assumption) (by simp)); (first | exact get_map (by assumption) | exact get_map rfl | rfl); exact Salg.underlying5; rfl; simp only [Act.put, List.setIfInBounds_toArray, List.set_cons_zero, List.set_cons_succ])
            | ((with_reducible apply W_st8_0 (m := (c + x) % 256)); rfl; rfl; omega; exact M; exact Or.inr hb1; exact size5; omega; clear M; intro w2 M))
          go_roundw
          case rel =>
            refine ⟨i + 1, (c + x) / 256, cur.set i ((c + x) % 256), by omega, by go_num, by go_num, by omega, by simp [hcl], HCS.out.set (by omega), ?_, M⟩
            rw [HST.out, HTA.out, HTB.out, pow256_succ]
            have h := addn_step (x := x) (y := 0) HCV.out
            rw [Nat.add_zero, Nat.mul_zero, Nat.add_zero] at h
            exact h
          case measure => simp [intOf]; omega
      · have hik' : i = k := by omega
        subst hik'
        go_wp2_with ((with_reducible apply W_st8_0 (m := c)); rfl; rfl; omega; exact M; exact Or.inr hb1; exact size5; omega; clear M; intro w2 M)
        have hLs : Small (cur.set i c) := HCS.out.set (by omega)
        have e1 : (cur.set i c).take (i + 1) = cur.set i c := List.take_of_length_le (by simp; omega)
        have HV : Hid (val (cur.set i c) = val A + val B) := by
          show _ = _
          rw [← e1, HST.out, HCV.out, List.take_of_length_le (by rw [HTR.out]; omega), List.take_of_length_le (by rw [HTR'.out]; omega)]
        have hsl : (cur.set i c).length = i + 1 := by simp [hcl]
        clear e1 HST
        generalize cur.set i c = out at *
        have HN := hid (NatV.row M.r0 hLs (by omega))
        rw [hsl] at HN
        go_wp2_with fail
        refine (clip_any _ out _ HN.out).mono ?_
        rintro e w3 ⟨r, rfl, hr, rfl⟩
        have HR := hid hr
        clear hr
        go_wp2_with fail
        go_ret
        exact ⟨_, rfl, ⟨_, HR.out, tr_tight _, by rw [tr_val, HV.out]⟩, M.kept⟩

theorem add_num (v u : Value) (m n : Nat) (w : World) (hv : NumV w v m) (hu : NumV w u n) (hm : m < 256 ^ 200) (hn : n < 256 ^ 200) :
    Calls Salg.prog 68 #[v, u] w fun e w' => ∃ r, e = .returned r ∧ NumV w' r (m + n) ∧ Kept [] w w' := by
  obtain ⟨ds, h1, rfl, h2⟩ := hv.short hm
  obtain ⟨es, h3, rfl, h4⟩ := hu.short hn
  exact add_any v u ds es w h1 h3 (by omega) (by omega)
end Go.Proofs.YgcsalGreat

/-
  The walks of nat: trim, Norm, clip, Cmp, Pow2.
-/
import Derived.Test.YgcsalGreatTypes
import Derived.Test.YgcsalGreatPlain
import Derived.Test.YgcsalGreatNum
import Derived.Test.YgcsalGreatOrder
import Derived.WalkSpells
import Derived.WalkLawsBesides
set_option linter.unusedSimpArgs false
namespace Go.Own
/-- The digits lie at the head of a row. -/
def Dig (w : World) (p : Option Addr) (ds : List Nat) : Prop := ds = [] ∨ ∃ b t cs, p = some ⟨b, 0, none⟩ ∧ w.heap[b]? = some (R8 t cs) ∧ ds <+: cs
theorem Dig.kept {w w' : World} {p : Option Addr} {ds : List Nat} (h : Dig w p ds) (k : Kept [] w w') : Dig w' p ds := by
  rcases h with h | ⟨b, t, cs, h1, h2, h3⟩
  · exact .inl h
  · exact .inr ⟨b, t, cs, h1, k.row h2 (by simp), h3⟩
theorem Dig.take {w : World} {p : Option Addr} {ds : List Nat} (h : Dig w p ds) (k : Nat) : Dig w p (ds.take k) := by
  rcases h with h | ⟨b, t, cs, h1, h2, h3⟩
  · exact .inl (by simp [h])
  · exact .inr ⟨b, t, cs, h1, h2, (List.take_prefix k ds).trans h3⟩
theorem Dig.at {w : World} {p : Option Addr} {ds : List Nat} (h : Dig w p ds) {i : Nat} (hi : i < ds.length) : ∃ b t cs, p = some ⟨b, 0, none⟩ ∧ w.heap[b]? = some (R8 t cs) ∧ ds <+: cs := by
  rcases h with h | h
  · simp [h] at hi
  · exact h
theorem pre_get {ds cs : List Nat} (h : ds <+: cs) {i : Nat} (hi : i < ds.length) : cs[i]? = some ds[i] := by
  obtain ⟨t, rfl⟩ := h
  rw [List.getElem?_append_left hi]; exact List.getElem?_eq_getElem hi
/-- A natural of the Go text, its digits as they lie. -/
def NatV (w : World) (v : Value) (ds : List Nat) : Prop := ∃ p c, v = .slice p ds.length c ∧ ds.length ≤ c ∧ c ≤ 1000000 ∧ Dig w p ds ∧ Small ds
theorem NatV.kept {w w' : World} {v : Value} {ds : List Nat} (h : NatV w v ds) (k : Kept [] w w') : NatV w' v ds := by
  obtain ⟨p, c, h1, h2, h3, h4, h5⟩ := h
  exact ⟨p, c, h1, h2, h3, h4.kept k, h5⟩
theorem NatV.small {w : World} {v : Value} {ds : List Nat} (h : NatV w v ds) : Small ds := by obtain ⟨_, _, _, _, _, _, h⟩ := h; exact h
theorem NatV.nil (w : World) : NatV w (.slice none 0 0) [] := ⟨none, 0, rfl, by simp, by omega, .inl rfl, by intro x hx; cases hx⟩
theorem NatV.row {w : World} {b : Nat} {t : TypeId} {ds : List Nat} (h : w.heap[b]? = some (R8 t ds)) (hs : Small ds) (hl : ds.length ≤ 1000000) : NatV w (.slice (some ⟨b, 0, none⟩) ds.length ds.length) ds :=
  ⟨_, _, rfl, Nat.le_refl _, hl, .inr ⟨b, t, ds, rfl, h, List.prefix_refl _⟩, hs⟩
/-- A natural in its least form. -/
def NumV (w : World) (v : Value) (n : Nat) : Prop := ∃ ds, NatV w v ds ∧ Tight ds ∧ val ds = n
theorem NumV.kept {w w' : World} {v : Value} {n : Nat} (h : NumV w v n) (k : Kept [] w w') : NumV w' v n := by
  obtain ⟨ds, h1, h2, h3⟩ := h
  exact ⟨ds, h1.kept k, h2, h3⟩
end Go.Own
namespace Go.Proofs.YgcsalGreat
open Go.RowKit Go.Own
theorem hasSize5 : ∃ k, (Salg.prog.info? 5).map (·.size) = some k := ⟨1, size5⟩

set_option maxHeartbeats 1000000 in
set_option maxRecDepth 100000 in
theorem trim_any (p : Option Addr) (c : Nat) (ds : List Nat) (w : World) (hc : ds.length ≤ c) (hc' : c ≤ 1000000) (hd : Dig w p ds) :
    Calls Salg.prog 154 #[.slice p ds.length c] w fun e w' => e = .returned (.slice p (tl ds ds.length) (tl ds ds.length)) ∧ w' = w := by
  have HD := hid hd
  clear hd
  go_enter Salg.func154, Salg.ntmps154
  go_wp2
  go_loop [3] (fun i => ∃ k : Nat, k ≤ ds.length ∧ i = .int .i64 k ∧ tl ds k = tl ds ds.length) (fun i => (intOf i).toNat)
  case atStart => exact ⟨ds.length, by omega, rfl, rfl⟩
  case round =>
    obtain ⟨k, hk, rfl, ht⟩ := hrel
    have HT := hid ht
    clear ht
    match k, hk, HT with
    | 0, hk, HT =>
      go_wp2_with ((with_reducible apply W_slice3); rfl; rfl; rfl; rfl; rfl; exact Salg.underlying89; exact hasSize5; omega; simp only [Act.put, List.setIfInBounds_toArray, List.set_cons_zero, List.set_cons_succ])
      go_ret
      exact ⟨by rw [← HT.out]; rfl, rfl⟩
    | k + 1, hk, HT =>
      obtain ⟨b, t, cs, rfl, hr, hpre⟩ := HD.out.at (i := k) (by omega)
      have hg := pre_get hpre (i := k) (by omega)
      have hgd : ds.getD k 0 = ds[k] := getD_get (by omega)
      by_cases h0 : ds[k] = 0
      · have HT' : Hid (tl ds k = tl ds ds.length) := by have := HT.out; simp only [tl, hgd, h0, if_true] at this; exact this
        clear HT hgd
        rw [h0] at hg
        go_wp2_with ((with_reducible apply W_loadCellG); rfl; rfl; exact hr; exact get_map hg; exact Salg.underlying5; rfl; simp only [Act.put, List.setIfInBounds_toArray, List.set_cons_zero, List.set_cons_succ])
        go_round
        case rel => exact ⟨k, by omega, by go_num, HT'.out⟩
        case measure => simp [intOf]
      · have HT' : Hid (k + 1 = tl ds ds.length) := by have := HT.out; simp only [tl, hgd, h0, if_false] at this; exact this
        have hne : ((ds[k] : Int) == 0) = false := by rw [beq_eq_false_iff_ne]; omega
        clear HT hgd h0
        generalize ds[k] = x at *
        go_wp2_with (first
          | ((with_reducible apply W_loadCellG); rfl; rfl; exact hr; exact get_map hg; exact Salg.underlying5; rfl; simp only [Act.put, List.setIfInBounds_toArray, List.set_cons_zero, List.set_cons_succ])
          | ((with_reducible apply W_slice3); rfl; rfl; rfl; rfl; rfl; exact Salg.underlying89; exact hasSize5; omega; simp only [Act.put, List.setIfInBounds_toArray, List.set_cons_zero, List.set_cons_succ]))
        go_ret
        exact ⟨by rw [← HT'.out]; rfl, rfl⟩

set_option maxHeartbeats 1000000 in
set_option maxRecDepth 100000 in
theorem norm_any (v : Value) (ds : List Nat) (w : World) (hv : NatV w v ds) :
    Calls Salg.prog 158 #[v] w fun e w' => ∃ u, e = .returned u ∧ NatV w' u (tr ds) ∧ Kept [] w w' := by
  obtain ⟨p, c, rfl, hc, hc', hd, hs⟩ := hv
  have HD := hid hd
  have HTR := hid (tr_length ds)
  have HSM := hid hs.tr
  clear hd hs
  have htl := tl_le ds ds.length
  have M := Mem.start w []
  by_cases h0 : tl ds ds.length = 0
  · go_enter Salg.func158, Salg.ntmps158
    go_wp2_with (go_at_call 154; refine (trim_any p c ds _ hc hc' HD.out).mono ?_; rintro e w1 ⟨rfl, rfl⟩; rw [h0])
    go_ret
    refine ⟨_, rfl, ?_, M.kept⟩
    have : tr ds = [] := List.length_eq_zero_iff.1 (by rw [HTR.out, h0])
    rw [this]
    exact NatV.nil _
  · have hpos : 0 < tl ds ds.length := by omega
    have HT2 : Hid ((ds.take (tl ds ds.length)).length = tl ds ds.length) := HTR.out
    have HS2 : Hid (Small (ds.take (tl ds ds.length))) := HSM.out
    clear HTR HSM
    rw [show tr ds = ds.take (tl ds ds.length) from rfl]
    obtain ⟨b, t, cs, rfl, hr, hpre⟩ := HD.out.at (i := 0) (by omega)
    have HP := hid ((List.take_prefix (tl ds ds.length) ds).trans hpre)
    have htrim := fun w1 (h : Dig w1 (some ⟨b, 0, none⟩) ds) => trim_any (some ⟨b, 0, none⟩) c ds w1 hc hc' h
    have HTRIM := hid htrim
    clear htrim hpre
    generalize tl ds ds.length = k at *
    go_enter Salg.func158, Salg.ntmps158
    go_wp2_with (first
      | (go_at_call 154; refine (HTRIM.out _ HD.out).mono ?_; rintro e w1 ⟨rfl, rfl⟩)
      | ((with_reducible apply W_make8 M); rfl; rfl; rfl; rfl; omega; exact Salg.underlying89; exact info5; clear M; intro b1 w2 hb1 M; simp only [Act.put, List.setIfInBounds_toArray, List.set_cons_zero, List.set_cons_succ])
      | ((with_reducible apply W_copyMap0 (f := n8) (fun _ => rfl)); rfl; rfl; exact Salg.underlying89; exact size5; exact M; exact Or.inr hb1; exact M.kept.row hr (by simp); (simp <;> omega); (have := HP.out.length_le; rw [HT2.out] at this; simp <;> omega); clear M; intro w3 M; simp only [Act.put, List.setIfInBounds_toArray, List.set_cons_zero, List.set_cons_succ]))
    go_ret
    refine ⟨_, rfl, ?_, M.kept⟩
    have e1 : cs.take (min k k) ++ (List.replicate k 0).drop (min k k) = ds.take k := by
      rw [Nat.min_self, List.drop_of_length_le (by simp), List.append_nil]
      have := List.prefix_iff_eq_take.1 HP.out
      rw [HT2.out] at this
      exact this.symm
    rw [e1] at M
    have := NatV.row M.r0 HS2.out (by rw [HT2.out]; omega)
    rw [HT2.out] at this
    exact this

set_option maxHeartbeats 1000000 in
set_option maxRecDepth 100000 in
theorem clip_any (v : Value) (ds : List Nat) (w : World) (hv : NatV w v ds) :
    Calls Salg.prog 155 #[v] w fun e w' => ∃ u, e = .returned u ∧ NatV w u (tr ds) ∧ w' = w := by
  obtain ⟨p, c, rfl, hc, hc', hd, hs⟩ := hv
  have HD := hid hd
  have HTR : Hid ((ds.take (tl ds ds.length)).length = tl ds ds.length) := tr_length ds
  have HSM : Hid (Small (ds.take (tl ds ds.length))) := hs.tr
  have HDT := hid (hd.take (tl ds ds.length))
  clear hd hs
  have htl := tl_le ds ds.length
  have HTRIM := hid (trim_any p c ds w hc hc' HD.out)
  rw [show tr ds = ds.take (tl ds ds.length) from rfl]
  generalize tl ds ds.length = k at *
  by_cases h0 : k = 0
  · subst h0
    go_enter Salg.func155, Salg.ntmps155
    go_wp2_with (go_at_call 154; refine HTRIM.out.mono ?_; rintro e w1 ⟨rfl, rfl⟩)
    go_ret
    exact ⟨_, rfl, NatV.nil _, rfl⟩
  · have hpos : 0 < k := by omega
    go_enter Salg.func155, Salg.ntmps155
    go_wp2_with (first
      | (go_at_call 154; refine HTRIM.out.mono ?_; rintro e w1 ⟨rfl, rfl⟩)
      | ((with_reducible apply W_slice3); rfl; rfl; rfl; rfl; rfl; exact Salg.underlying89; exact hasSize5; omega; simp only [Act.put, List.setIfInBounds_toArray, List.set_cons_zero, List.set_cons_succ]))
    go_ret
    refine ⟨_, rfl, ⟨p, k, ?_, by rw [HTR.out]; omega, by omega, HDT.out, HSM.out⟩, rfl⟩
    rw [HTR.out]
    rfl

set_option maxHeartbeats 1000000 in
set_option maxRecDepth 100000 in
theorem cmp_any (v u : Value) (ds es : List Nat) (w : World) (hv : NatV w v ds) (hu : NatV w u es) :
    Calls Salg.prog 72 #[v, u] w fun e w' => e = .returned (.int .i8 (cmpI (val ds) (val es))) ∧ Kept [] w w' := by
  obtain ⟨p, c, rfl, hc, hc', hd, hs⟩ := hv
  obtain ⟨q, c2, rfl, hk, hk', hd', hs'⟩ := hu
  have HTR : Hid ((ds.take (tl ds ds.length)).length = tl ds ds.length) := tr_length ds
  have HTR' : Hid ((es.take (tl es es.length)).length = tl es es.length) := tr_length es
  have HSM : Hid (Small (ds.take (tl ds ds.length))) := hs.tr
  have HSM' : Hid (Small (es.take (tl es es.length))) := hs'.tr
  have HTT : Hid (Tight (ds.take (tl ds ds.length))) := tr_tight ds
  have HTT' : Hid (Tight (es.take (tl es es.length))) := tr_tight es
  have HDT := hid (hd.take (tl ds ds.length))
  have HDT' := hid (hd'.take (tl es es.length))
  have hb1 := tl_le ds ds.length
  have hb2 := tl_le es es.length
  have HTRIM := hid (trim_any p c ds w hc hc' hd)
  have HTRIM' := hid (trim_any q c2 es w hk hk' hd')
  rw [← tr_val ds, ← tr_val es, show tr ds = ds.take (tl ds ds.length) from rfl, show tr es = es.take (tl es es.length) from rfl]
  clear hd hd' hs hs'
  have hl1 : ds.length ≤ 1000000 := by omega
  have hl2 : es.length ≤ 1000000 := by omega
  generalize tl ds ds.length = k at *
  generalize tl es es.length = j at *
  generalize ds.take k = A at *
  generalize es.take j = B at *
  have M := Mem.start w []
  rcases Nat.lt_trichotomy k j with h | h | h
  · rw [cmpI_lt (tight_lt HSM.out HTT'.out (by rw [HTR.out, HTR'.out]; exact h))]
    go_enter Salg.func72, Salg.ntmps72
    go_wp2_with fail
    refine HTRIM.out.mono ?_; rintro e w1 ⟨rfl, rfl⟩
    go_wp2_with fail
    refine HTRIM'.out.mono ?_; rintro e w1 ⟨rfl, rfl⟩
    go_wp2_with fail
    go_ret
    exact ⟨rfl, M.kept⟩
  · subst h
    go_enter Salg.func72, Salg.ntmps72
    go_wp2_with fail
    refine HTRIM.out.mono ?_; rintro e w1 ⟨rfl, rfl⟩
    go_wp2_with fail
    refine HTRIM'.out.mono ?_; rintro e w1 ⟨rfl, rfl⟩
    go_wp2_with fail
    go_loopw [5] (fun i wr => ∃ n : Nat, n ≤ k ∧ i = .int .i64 n ∧ A.drop n = B.drop n ∧ Mem w1 [] [] wr) (fun i _ => (intOf i).toNat)
    case atStart => exact ⟨k, by omega, rfl, by rw [List.drop_of_length_le (by rw [HTR.out]; omega), List.drop_of_length_le (by rw [HTR'.out]; omega)], M⟩
    case round =>
      obtain ⟨n, hn, rfl, hdrop, M⟩ := hrel
      have HDR := hid hdrop
      clear hdrop
      match n, hn, HDR with
      | 0, hn, HDR =>
        have HAB : Hid (A = B) := HDR.out
        clear HDR
        go_wp2_with fail
        go_ret
        exact ⟨ret_int (cmpI_eq (by rw [HAB.out])).symm, M.kept⟩
      | n + 1, hn, HDR =>
        have hnA : n < A.length := by rw [HTR.out]; omega
        have hnB : n < B.length := by rw [HTR'.out]; omega
        obtain ⟨b, t, cs, rfl, hr, hpre⟩ := HDT.out.at hnA
        obtain ⟨b', t', cs', rfl, hr', hpre'⟩ := HDT'.out.at hnB
        have hg := pre_get hpre hnA
        have hg' := pre_get hpre' hnB
        have HLT : Hid (A[n] < B[n] → val A < val B) := fun h => lt_of_digit HSM.out hnA hnB HDR.out h
        have HGT : Hid (B[n] < A[n] → val B < val A) := fun h => lt_of_digit HSM'.out hnB hnA HDR.out.symm h
        have HEQ : Hid (A[n] = B[n] → A.drop n = B.drop n) := fun h => by rw [List.drop_eq_getElem_cons hnA, List.drop_eq_getElem_cons hnB, HDR.out, h]
        clear hpre hpre'
        generalize A[n] = x at *
        generalize B[n] = y at *
        go_wp2_with fail
        by_cases h1 : (x : Int) < (y : Int)
        · skip
          refine S_region (by kernel_rfl) ?_
          refine S_quiet 0 11 (by kernel_rfl) (by decide) M.drew ?_
          clear M
          simp only [List.take_succ_cons, List.take_zero, List.drop_zero, List.drop_succ_cons, Nat.sub_zero, Nat.reduceSub]
          ((with_reducible apply Q_run); rfl; (intro w M; go_simp; (try go_ints); (try simp only [↓IntWalk.iteOmega]); (try with_reducible rfl)); simp only [Act.put, List.setIfInBounds_toArray, List.set_cons_zero, List.set_cons_succ])
          ((with_reducible apply Q_run); rfl; (intro w M; go_simp; (try go_ints); (try simp only [↓IntWalk.iteOmega]); (try with_reducible rfl)); simp only [Act.put, List.setIfInBounds_toArray, List.set_cons_zero, List.set_cons_succ])
          ((with_reducible apply Q_run); rfl; (intro w M; go_simp; (try go_ints); (try simp only [↓IntWalk.iteOmega]); (try with_reducible rfl)); simp only [Act.put, List.setIfInBounds_toArray, List.set_cons_zero, List.set_cons_succ])
          ((with_reducible apply Q_run); rfl; (intro w M; go_simp; (try go_ints); (try simp only [↓IntWalk.iteOmega]); (try with_reducible rfl)); simp only [Act.put, List.setIfInBounds_toArray, List.set_cons_zero, List.set_cons_succ])
          ((with_reducible apply Q_run); rfl; (intro w M; exact run_loadCell (by (first | with_reducible exact M.r0 | with_reducible exact M.r1 | with_reducible exact M.r2 | with_reducible exact M.r3 | with_reducible exact M.r4 | with_reducible exact M.r5 | with_reducible exact M.r6 | assumption | exact M.kept.row (by assumption) (by simp))) rfl (by (first | exact get_map (by assumption) | exact get_map rfl | rfl)) Salg.underlying5 rfl); simp only [Act.put, List.setIfInBounds_toArray, List.set_cons_zero, List.set_cons_succ])
          ((with_reducible apply Q_run); rfl; (intro w M; go_simp; (try go_ints); (try simp only [↓IntWalk.iteOmega]); (try with_reducible rfl)); simp only [Act.put, List.setIfInBounds_toArray, List.set_cons_zero, List.set_cons_succ])
          ((with_reducible apply Q_run); rfl; (intro w M; go_simp; (try go_ints); (try simp only [↓IntWalk.iteOmega]); (try with_reducible rfl)); simp only [Act.put, List.setIfInBounds_toArray, List.set_cons_zero, List.set_cons_succ])
          ((with_reducible apply Q_run); rfl; (intro w M; go_simp; (try go_ints); (try simp only [↓IntWalk.iteOmega]); (try with_reducible rfl)); simp only [Act.put, List.setIfInBounds_toArray, List.set_cons_zero, List.set_cons_succ])
          ((with_reducible apply Q_run); rfl; (intro w M; go_simp; (try go_ints); (try simp only [↓IntWalk.iteOmega]); (try with_reducible rfl)); simp only [Act.put, List.setIfInBounds_toArray, List.set_cons_zero, List.set_cons_succ])
          ((with_reducible apply Q_run); rfl; (intro w M; exact run_loadCell (by (first | with_reducible exact M.r0 | with_reducible exact M.r1 | with_reducible exact M.r2 | with_reducible exact M.r3 | with_reducible exact M.r4 | with_reducible exact M.r5 | with_reducible exact M.r6 | assumption | exact M.kept.row (by assumption) (by simp))) rfl (by (first | exact get_map (by assumption) | exact get_map rfl | rfl)) Salg.underlying5 rfl); simp only [Act.put, List.setIfInBounds_toArray, List.set_cons_zero, List.set_cons_succ])
          ((with_reducible apply Q_run); rfl; (intro w M; go_simp; (try go_ints); (try simp only [↓IntWalk.iteOmega]); (try with_reducible rfl)); simp only [Act.put, List.setIfInBounds_toArray, List.set_cons_zero, List.set_cons_succ])
          refine Q_nil ?_
          intro w2 M
          refine S_done ?_
          go_wp2_with fail
          go_ret
          exact ⟨ret_int (cmpI_lt (HLT.out (by omega))).symm, M.kept⟩
        · skip
          refine S_region (by kernel_rfl) ?_
          refine S_quiet 0 11 (by kernel_rfl) (by decide) M.drew ?_
          clear M
          simp only [List.take_succ_cons, List.take_zero, List.drop_zero, List.drop_succ_cons, Nat.sub_zero, Nat.reduceSub]
          ((with_reducible apply Q_run); rfl; (intro w M; go_simp; (try go_ints); (try simp only [↓IntWalk.iteOmega]); (try with_reducible rfl)); simp only [Act.put, List.setIfInBounds_toArray, List.set_cons_zero, List.set_cons_succ])
          ((with_reducible apply Q_run); rfl; (intro w M; go_simp; (try go_ints); (try simp only [↓IntWalk.iteOmega]); (try with_reducible rfl)); simp only [Act.put, List.setIfInBounds_toArray, List.set_cons_zero, List.set_cons_succ])
          ((with_reducible apply Q_run); rfl; (intro w M; go_simp; (try go_ints); (try simp only [↓IntWalk.iteOmega]); (try with_reducible rfl)); simp only [Act.put, List.setIfInBounds_toArray, List.set_cons_zero, List.set_cons_succ])
          ((with_reducible apply Q_run); rfl; (intro w M; go_simp; (try go_ints); (try simp only [↓IntWalk.iteOmega]); (try with_reducible rfl)); simp only [Act.put, List.setIfInBounds_toArray, List.set_cons_zero, List.set_cons_succ])
          ((with_reducible apply Q_run); rfl; (intro w M; exact run_loadCell (by (first | with_reducible exact M.r0 | with_reducible exact M.r1 | with_reducible exact M.r2 | with_reducible exact M.r3 | with_reducible exact M.r4 | with_reducible exact M.r5 | with_reducible exact M.r6 | assumption | exact M.kept.row (by assumption) (by simp))) rfl (by (first | exact get_map (by assumption) | exact get_map rfl | rfl)) Salg.underlying5 rfl); simp only [Act.put, List.setIfInBounds_toArray, List.set_cons_zero, List.set_cons_succ])
          ((with_reducible apply Q_run); rfl; (intro w M; go_simp; (try go_ints); (try simp only [↓IntWalk.iteOmega]); (try with_reducible rfl)); simp only [Act.put, List.setIfInBounds_toArray, List.set_cons_zero, List.set_cons_succ])
          ((with_reducible apply Q_run); rfl; (intro w M; go_simp; (try go_ints); (try simp only [↓IntWalk.iteOmega]); (try with_reducible rfl)); simp only [Act.put, List.setIfInBounds_toArray, List.set_cons_zero, List.set_cons_succ])
          ((with_reducible apply Q_run); rfl; (intro w M; go_simp; (try go_ints); (try simp only [↓IntWalk.iteOmega]); (try with_reducible rfl)); simp only [Act.put, List.setIfInBounds_toArray, List.set_cons_zero, List.set_cons_succ])
          ((with_reducible apply Q_run); rfl; (intro w M; go_simp; (try go_ints); (try simp only [↓IntWalk.iteOmega]); (try with_reducible rfl)); simp only [Act.put, List.setIfInBounds_toArray, List.set_cons_zero, List.set_cons_succ])
          ((with_reducible apply Q_run); rfl; (intro w M; exact run_loadCell (by (first | with_reducible exact M.r0 | with_reducible exact M.r1 | with_reducible exact M.r2 | with_reducible exact M.r3 | with_reducible exact M.r4 | with_reducible exact M.r5 | with_reducible exact M.r6 | assumption | exact M.kept.row (by assumption) (by simp))) rfl (by (first | exact get_map (by assumption) | exact get_map rfl | rfl)) Salg.underlying5 rfl); simp only [Act.put, List.setIfInBounds_toArray, List.set_cons_zero, List.set_cons_succ])
          ((with_reducible apply Q_run); rfl; (intro w M; go_simp; (try go_ints); (try simp only [↓IntWalk.iteOmega]); (try with_reducible rfl)); simp only [Act.put, List.setIfInBounds_toArray, List.set_cons_zero, List.set_cons_succ])
          refine Q_nil ?_
          intro w2 M
          refine S_done ?_
          go_wp2_with fail
          by_cases h2 : (y : Int) < (x : Int)
          · skip
            refine S_region (by kernel_rfl) ?_
            refine S_quiet 0 11 (by kernel_rfl) (by decide) M.drew ?_
            clear M
            simp only [List.take_succ_cons, List.take_zero, List.drop_zero, List.drop_succ_cons, Nat.sub_zero, Nat.reduceSub]
            ((with_reducible apply Q_run); rfl; (intro w M; go_simp; (try go_ints); (try simp only [↓IntWalk.iteOmega]); (try with_reducible rfl)); simp only [Act.put, List.setIfInBounds_toArray, List.set_cons_zero, List.set_cons_succ])
            ((with_reducible apply Q_run); rfl; (intro w M; go_simp; (try go_ints); (try simp only [↓IntWalk.iteOmega]); (try with_reducible rfl)); simp only [Act.put, List.setIfInBounds_toArray, List.set_cons_zero, List.set_cons_succ])
            ((with_reducible apply Q_run); rfl; (intro w M; go_simp; (try go_ints); (try simp only [↓IntWalk.iteOmega]); (try with_reducible rfl)); simp only [Act.put, List.setIfInBounds_toArray, List.set_cons_zero, List.set_cons_succ])
            ((with_reducible apply Q_run); rfl; (intro w M; go_simp; (try go_ints); (try simp only [↓IntWalk.iteOmega]); (try with_reducible rfl)); simp only [Act.put, List.setIfInBounds_toArray, List.set_cons_zero, List.set_cons_succ])
            ((with_reducible apply Q_run); rfl; (intro w M; exact run_loadCell (by (first | with_reducible exact M.r0 | with_reducible exact M.r1 | with_reducible exact M.r2 | with_reducible exact M.r3 | with_reducible exact M.r4 | with_reducible exact M.r5 | with_reducible exact M.r6 | assumption | exact M.kept.row (by assumption) (by simp))) rfl (by (first | exact get_map (by assumption) | exact get_map rfl | rfl)) Salg.underlying5 rfl); simp only [Act.put, List.setIfInBounds_toArray, List.set_cons_zero, List.set_cons_succ])
            ((with_reducible apply Q_run); rfl; (intro w M; go_simp; (try go_ints); (try simp only [↓IntWalk.iteOmega]); (try with_reducible rfl)); simp only [Act.put, List.setIfInBounds_toArray, List.set_cons_zero, List.set_cons_succ])
            ((with_reducible apply Q_run); rfl; (intro w M; go_simp; (try go_ints); (try simp only [↓IntWalk.iteOmega]); (try with_reducible rfl)); simp only [Act.put, List.setIfInBounds_toArray, List.set_cons_zero, List.set_cons_succ])
            ((with_reducible apply Q_run); rfl; (intro w M; go_simp; (try go_ints); (try simp only [↓IntWalk.iteOmega]); (try with_reducible rfl)); simp only [Act.put, List.setIfInBounds_toArray, List.set_cons_zero, List.set_cons_succ])
            ((with_reducible apply Q_run); rfl; (intro w M; go_simp; (try go_ints); (try simp only [↓IntWalk.iteOmega]); (try with_reducible rfl)); simp only [Act.put, List.setIfInBounds_toArray, List.set_cons_zero, List.set_cons_succ])
            ((with_reducible apply Q_run); rfl; (intro w M; exact run_loadCell (by (first | with_reducible exact M.r0 | with_reducible exact M.r1 | with_reducible exact M.r2 | with_reducible exact M.r3 | with_reducible exact M.r4 | with_reducible exact M.r5 | with_reducible exact M.r6 | assumption | exact M.kept.row (by assumption) (by simp))) rfl (by (first | exact get_map (by assumption) | exact get_map rfl | rfl)) Salg.underlying5 rfl); simp only [Act.put, List.setIfInBounds_toArray, List.set_cons_zero, List.set_cons_succ])
            ((with_reducible apply Q_run); rfl; (intro w M; go_simp; (try go_ints); (try simp only [↓IntWalk.iteOmega]); (try with_reducible rfl)); simp only [Act.put, List.setIfInBounds_toArray, List.set_cons_zero, List.set_cons_succ])
            refine Q_nil ?_
            intro w2 M
            refine S_done ?_
            go_wp2_with fail
            go_ret
            exact ⟨ret_int (cmpI_gt (HGT.out (by omega))).symm, M.kept⟩
          · skip
            refine S_region (by kernel_rfl) ?_
            refine S_quiet 0 11 (by kernel_rfl) (by decide) M.drew ?_
            clear M
            simp only [List.take_succ_cons, List.take_zero, List.drop_zero, List.drop_succ_cons, Nat.sub_zero, Nat.reduceSub]
            ((with_reducible apply Q_run); rfl; (intro w M; go_simp; (try go_ints); (try simp only [↓IntWalk.iteOmega]); (try with_reducible rfl)); simp only [Act.put, List.setIfInBounds_toArray, List.set_cons_zero, List.set_cons_succ])
            ((with_reducible apply Q_run); rfl; (intro w M; go_simp; (try go_ints); (try simp only [↓IntWalk.iteOmega]); (try with_reducible rfl)); simp only [Act.put, List.setIfInBounds_toArray, List.set_cons_zero, List.set_cons_succ])
            ((with_reducible apply Q_run); rfl; (intro w M; go_simp; (try go_ints); (try simp only [↓IntWalk.iteOmega]); (try with_reducible rfl)); simp only [Act.put, List.setIfInBounds_toArray, List.set_cons_zero, List.set_cons_succ])
            ((with_reducible apply Q_run); rfl; (intro w M; go_simp; (try go_ints); (try simp only [↓IntWalk.iteOmega]); (try with_reducible rfl)); simp only [Act.put, List.setIfInBounds_toArray, List.set_cons_zero, List.set_cons_succ])
            ((with_reducible apply Q_run); rfl; (intro w M; exact run_loadCell (by (first | with_reducible exact M.r0 | with_reducible exact M.r1 | with_reducible exact M.r2 | with_reducible exact M.r3 | with_reducible exact M.r4 | with_reducible exact M.r5 | with_reducible exact M.r6 | assumption | exact M.kept.row (by assumption) (by simp))) rfl (by (first | exact get_map (by assumption) | exact get_map rfl | rfl)) Salg.underlying5 rfl); simp only [Act.put, List.setIfInBounds_toArray, List.set_cons_zero, List.set_cons_succ])
            ((with_reducible apply Q_run); rfl; (intro w M; go_simp; (try go_ints); (try simp only [↓IntWalk.iteOmega]); (try with_reducible rfl)); simp only [Act.put, List.setIfInBounds_toArray, List.set_cons_zero, List.set_cons_succ])
            ((with_reducible apply Q_run); rfl; (intro w M; go_simp; (try go_ints); (try simp only [↓IntWalk.iteOmega]); (try with_reducible rfl)); simp only [Act.put, List.setIfInBounds_toArray, List.set_cons_zero, List.set_cons_succ])
            ((with_reducible apply Q_run); rfl; (intro w M; go_simp; (try go_ints); (try simp only [↓IntWalk.iteOmega]); (try with_reducible rfl)); simp only [Act.put, List.setIfInBounds_toArray, List.set_cons_zero, List.set_cons_succ])
            ((with_reducible apply Q_run); rfl; (intro w M; go_simp; (try go_ints); (try simp only [↓IntWalk.iteOmega]); (try with_reducible rfl)); simp only [Act.put, List.setIfInBounds_toArray, List.set_cons_zero, List.set_cons_succ])
            ((with_reducible apply Q_run); rfl; (intro w M; exact run_loadCell (by (first | with_reducible exact M.r0 | with_reducible exact M.r1 | with_reducible exact M.r2 | with_reducible exact M.r3 | with_reducible exact M.r4 | with_reducible exact M.r5 | with_reducible exact M.r6 | assumption | exact M.kept.row (by assumption) (by simp))) rfl (by (first | exact get_map (by assumption) | exact get_map rfl | rfl)) Salg.underlying5 rfl); simp only [Act.put, List.setIfInBounds_toArray, List.set_cons_zero, List.set_cons_succ])
            ((with_reducible apply Q_run); rfl; (intro w M; go_simp; (try go_ints); (try simp only [↓IntWalk.iteOmega]); (try with_reducible rfl)); simp only [Act.put, List.setIfInBounds_toArray, List.set_cons_zero, List.set_cons_succ])
            refine Q_nil ?_
            intro w2 M
            refine S_done ?_
            go_wp2_with fail
            go_roundw
            case rel => exact ⟨n, by omega, by go_num, HEQ.out (by omega), M⟩
            case measure => simp [intOf]
  · rw [cmpI_gt (tight_lt HSM'.out HTT.out (by rw [HTR.out, HTR'.out]; exact h))]
    go_enter Salg.func72, Salg.ntmps72
    go_wp2_with fail
    refine HTRIM.out.mono ?_; rintro e w1 ⟨rfl, rfl⟩
    go_wp2_with fail
    refine HTRIM'.out.mono ?_; rintro e w1 ⟨rfl, rfl⟩
    go_wp2_with fail
    go_ret
    exact ⟨rfl, M.kept⟩
end Go.Proofs.YgcsalGreat

/-
  A row of bytes that came in (DatV: at any place); the walks of law.copyBytes on it and of law.laid.
-/
import Derived.Test.YgcsalGreatCp7
set_option linter.unusedSimpArgs false
set_option linter.unusedVariables false
namespace Go.Own
theorem wrB_get {m bs : List Nat} {D : Nat} (h : D + bs.length ≤ m.length) (k : Nat) : (wrB m D bs)[k]? = if k < D then m[k]? else if k < D + bs.length then bs[k - D]? else m[k]? := by
  unfold wrB
  have h1 : (m.take D).length = D := by simp; omega
  have h2 : (m.take D ++ bs).length = D + bs.length := by rw [List.length_append, h1]
  split
  · rw [List.getElem?_append_left (by omega), List.getElem?_append_left (by omega), List.getElem?_take, if_pos (by assumption)]
  · split
    · rw [List.getElem?_append_left (by omega), List.getElem?_append_right (by omega), h1]
    · rw [List.getElem?_append_right (by omega), h2, List.getElem?_drop]
      congr 1
      omega
theorem cutB_get (ds : List Nat) (m j k : Nat) : (cutB ds m j)[k]? = if k < j then some (ds.getD (m + k) 0) else none := by
  split
  · unfold cutB
    rcases Nat.lt_or_ge (m + k) ds.length with h | h
    · rw [List.getElem?_append_left (by simp; omega), List.getElem?_take, if_pos (by assumption), List.getElem?_drop, List.getD_eq_getElem?_getD, List.getElem?_eq_getElem h]
      rfl
    · rw [List.getElem?_append_right (by simp; omega), List.getElem?_replicate, if_pos (by simp; omega), List.getD_eq_getElem?_getD, List.getElem?_eq_none h]
      rfl
  · exact List.getElem?_eq_none (by rw [cutB_length]; omega)
theorem lay_step {bl src : List Nat} {D N s i : Nat} (h : D + N ≤ bl.length) (hi : i < N) : (wrB bl D (cutB src s i)).set (D + i) (src.getD (s + i) 0) = wrB bl D (cutB src s (i + 1)) := by
  apply List.ext_getElem?
  intro k
  have l1 : D + (cutB src s i).length ≤ bl.length := by rw [cutB_length]; omega
  have l2 : D + (cutB src s (i + 1)).length ≤ bl.length := by rw [cutB_length]; omega
  rw [List.getElem?_set, wrB_length l1, wrB_get l1, wrB_get l2, cutB_length, cutB_length, cutB_get, cutB_get]
  by_cases h1 : D + i = k
  · subst h1
    rw [if_pos rfl, if_pos (by omega), if_neg (by omega), if_pos (by omega), if_pos (by omega), show D + i - D = i by omega]
  · rw [if_neg h1]
    by_cases h2 : k < D
    · rw [if_pos h2, if_pos h2]
    · rw [if_neg h2, if_neg h2]
      by_cases h3 : k < D + i
      · rw [if_pos h3, if_pos (by omega), if_pos (by omega), if_pos (by omega)]
      · rw [if_neg h3, if_neg (by omega)]
theorem lay_zero {bl src : List Nat} {D N s i : Nat} (h : D + N ≤ bl.length) (hi : i < N) (hs : src.length ≤ s + i) : (wrB bl D (cutB src s i)).set (D + i) 0 = wrB bl D (cutB src s (i + 1)) := by
  have e : src.getD (s + i) 0 = 0 := by rw [List.getD_eq_getElem?_getD, List.getElem?_eq_none hs]; rfl
  rw [← lay_step h hi, e]
theorem set_two (l : List Nat) (i a b : Nat) : (l.set i a).set i b = l.set i b := by simp
end Go.Own
namespace Go.Proofs.YgcsalGreat
open Go.RowKit Go.Own
def DatV (w : World) (v : Value) (ds : List Nat) : Prop := Small ds ∧ ((ds = [] ∧ ∃ p c, v = .slice p 0 c ∧ (p = none → c = 0)) ∨ (0 < ds.length ∧ ∃ (b o c : Nat) (cs : Array Value) (t : TypeId) (fr : Nat × Nat), v = .slice (some ⟨b, o, none⟩) ds.length c ∧ w.heap[b]? = some (.cells cs t fr) ∧ ∀ i, i < ds.length → cs[o + i]? = some (n8 (ds.getD i 0))))
theorem DatV.kept {w w' : World} {v : Value} {ds : List Nat} (h : DatV w v ds) (k : Kept [] w w') : DatV w' v ds := by
  obtain ⟨h0, h | ⟨h1, b, o, c, cs, t, fr, h2, h3, h4⟩⟩ := h
  · exact ⟨h0, .inl h⟩
  · exact ⟨h0, .inr ⟨h1, b, o, c, cs, t, fr, h2, k.row h3 (by simp), h4⟩⟩
theorem DatV.slice {w : World} {v : Value} {ds : List Nat} (h : DatV w v ds) : ∃ p c, v = .slice p ds.length c := by
  obtain ⟨h0, ⟨rfl, p, c, h, _⟩ | ⟨h1, b, o, c, cs, t, fr, h2, h3, h4⟩⟩ := h
  · exact ⟨p, c, h⟩
  · exact ⟨_, _, h2⟩
theorem DatV.ofCells {w : World} {ds : List Nat} {g cap : Nat} {cur : Array Value} {t : TypeId} {fr : Nat × Nat} (hs : Small ds) (h0 : 0 < ds.length) (hr : w.heap[g]? = some (.cells cur t fr)) (hc : ∀ i, i < ds.length → cur[i]? = (ds.map n8)[i]?) : DatV w (.slice (some ⟨g, 0, none⟩) ds.length cap) ds := by
  refine ⟨hs, .inr ⟨h0, g, 0, cap, cur, t, fr, rfl, hr, ?_⟩⟩
  intro i hi
  rw [Nat.zero_add, hc i hi, List.getElem?_map, List.getElem?_eq_getElem hi, List.getD_eq_getElem?_getD, List.getElem?_eq_getElem hi]
  rfl
theorem DatV.row {w : World} {v : Value} {ds : List Nat} (h : RowV w 5 v (ds.map n8)) (h0 : 0 < ds.length) (hs : Small ds) : DatV w v ds := by
  obtain ⟨g, cap, cur, rfl, hr, hc, hx⟩ := h.pos (by simpa using h0)
  have e : (ds.map n8).length = ds.length := by simp
  rw [e]
  exact DatV.ofCells hs h0 hr (fun i hi => hx i (by simpa using hi))
theorem DatV.ofR8 {w : World} {ds : List Nat} {g n cap : Nat} {t : TypeId} (hs : Small ds) (h0 : 0 < n) (hn : ds.length = n) (hr : w.heap[g]? = some (R8 t ds)) : DatV w (.slice (some ⟨g, 0, none⟩) n cap) ds := by
  subst hn
  exact DatV.ofCells hs h0 hr (fun i hi => by simp)

set_option maxHeartbeats 4000000 in
set_option maxRecDepth 100000 in
theorem copyBytes_new (g o cap : Nat) (ds : List Nat) (cur : Array Value) (t : TypeId) (fr : Nat × Nat) (n : Nat) (w : World) (hr : w.heap[g]? = some (.cells cur t fr)) (hx : ∀ i, i < ds.length → cur[o + i]? = some (n8 (ds.getD i 0))) (hn : n = ds.length) (hl : n ≤ 1000) : Calls Salg.prog 23 #[.slice (some ⟨g, o, none⟩) n cap] w fun e w' => ∃ b, e = .returned (.slice (some ⟨b, 0, none⟩) n n) ∧ w'.heap[b]? = some (R8 5 ds) ∧ w.heap.size ≤ b ∧ Kept [] w w' := by
  have M := Mem.start w []
  have hle : (ds.map n8).length = n := by simp [hn]
  have HLE : Hid ((ds.map n8).length = min n n) := by show _ = _; rw [hle]; simp
  have HX : Hid (∀ (j : Nat) (u : Value), (ds.map n8)[j]? = some u → cur[o + j]? = some u) := by
    intro j u hj
    have hlt : j < ds.length := by simpa using (List.getElem?_eq_some_iff.1 hj).1
    rw [hx j hlt, ← hj, List.getElem?_map, List.getElem?_eq_getElem hlt, List.getD_eq_getElem?_getD, List.getElem?_eq_getElem hlt]
    rfl
  have HON : Hid (∀ v ∈ ds.map n8, v.oneCell' = true) := by
    intro v hv
    obtain ⟨x, _, rfl⟩ := List.mem_map.1 hv
    rfl
  have HFI : Hid (0 + (ds.map n8).length ≤ ((List.replicate n 0).map n8).toArray.size) := by show _ ≤ _; rw [hle]; simp
  have HSP : Hid ((((List.replicate n 0).map n8).toArray.toList.take 0 ++ ds.map n8 ++ ((List.replicate n 0).map n8).toArray.toList.drop (0 + (ds.map n8).length)) = ds.map n8) := by show _ = _; rw [hle]; simp
  clear hx hle hn
  go_enter Salg.func23, Salg.ntmps23
  go_wp2_with (first
    | ((with_reducible apply L_run); rfl; exact run_isnil rfl rfl Salg.underlying40 guard40; (try simp only [Option.isNone_none, Option.isNone_some]); simp only [Act.put, List.setIfInBounds_toArray, List.set_cons_zero, List.set_cons_succ])
    | ((with_reducible apply W_make8 (n := n) M); rfl; rfl; rfl; rfl; omega; exact Salg.underlying40; exact info5; clear M; intro b1 w2 hb1 M; simp only [Act.put, List.setIfInBounds_toArray, List.set_cons_zero, List.set_cons_succ])
    | ((with_reducible apply W_copyAt (b := b1) (o := 0) (b' := g) (so := o) (news := ds.map n8) (cur := ((List.replicate n 0).map n8).toArray) (t := 5)); rfl; rfl; exact Salg.underlying40; exact size5; exact M.r0; exact M.kept.row hr (by simp); exact HLE.out; exact HX.out; exact HFI.out; exact HON.out; intro w4 K hr4; rw [HSP.out] at hr4; replace M := Mem.callPut (L1 := []) M (Or.inr hb1) K hr4; clear K hr4; simp only [Act.put, List.setIfInBounds_toArray, List.set_cons_zero, List.set_cons_succ]))
  go_ret
  exact ⟨b1, rfl, M.r0, hb1, M.kept⟩

set_option maxHeartbeats 4000000 in
set_option maxRecDepth 100000 in
theorem copyBytes_empty (x : Addr) (cap : Nat) (w : World) : Calls Salg.prog 23 #[.slice (some x) 0 cap] w fun e w' => ∃ b, e = .returned (.slice (some ⟨b, 0, none⟩) 0 0) ∧ w'.heap[b]? = some (R8 5 []) ∧ w.heap.size ≤ b ∧ Kept [] w w' := by
  have M := Mem.start w []
  go_enter Salg.func23, Salg.ntmps23
  go_wp2_with (first
    | ((with_reducible apply L_run); rfl; exact run_isnil rfl rfl Salg.underlying40 guard40; (try simp only [Option.isNone_none, Option.isNone_some]); simp only [Act.put, List.setIfInBounds_toArray, List.set_cons_zero, List.set_cons_succ])
    | ((with_reducible apply W_make8 (n := 0) M); rfl; rfl; rfl; rfl; omega; exact Salg.underlying40; exact info5; clear M; intro b1 w2 hb1 M; simp only [Act.put, List.setIfInBounds_toArray, List.set_cons_zero, List.set_cons_succ])
    | ((with_reducible apply W_copy0); rfl; rfl; exact Salg.underlying40; exact size5; rfl; simp only [Act.put, List.setIfInBounds_toArray, List.set_cons_zero, List.set_cons_succ]))
  go_ret
  exact ⟨b1, rfl, M.r0, hb1, M.kept⟩
theorem copyBytes_dat (v : Value) (ds : List Nat) (w : World) (hv : DatV w v ds) (hl : ds.length ≤ 1000) : Calls Salg.prog 23 #[v] w fun e w' => ∃ u, e = .returned u ∧ NatV w' u ds ∧ Kept [] w w' := by
  obtain ⟨h0, ⟨rfl, p, c, rfl, hp⟩ | ⟨h1, b, o, c, cs, t, fr, rfl, h3, h4⟩⟩ := hv
  · cases p with
    | none =>
      obtain rfl := hp rfl
      refine (copyBytes_nil w).mono ?_
      rintro e w' ⟨rfl, rfl⟩
      exact ⟨_, rfl, ⟨none, 0, rfl, Nat.le_refl _, by decide, .inl rfl, h0⟩, Kept.refl _ _⟩
    | some x =>
      refine (copyBytes_empty x c w).mono ?_
      rintro e w' ⟨b, rfl, hr, hb, K⟩
      exact ⟨_, rfl, NatV.row hr h0 (by decide), K⟩
  · refine (copyBytes_new b o c ds cs t fr _ w h3 h4 rfl hl).mono ?_
    rintro e w' ⟨b, rfl, hr, hb, K⟩
    exact ⟨_, rfl, NatV.row hr h0 (by omega), K⟩

set_option maxHeartbeats 4000000 in
set_option maxRecDepth 100000 in
theorem laid_near (g n D s N : Nat) (bl src : List Nat) (sv : Value) (w : World) (hr : w.heap[g]? = some (R8 5 bl)) (hn : bl.length = n) (hn2 : n ≤ 128) (hv : DatV w sv src) (hsl : src.length ≤ 200) (hfit : D + N ≤ n) (hs : s < 64) : Calls Salg.prog 104 #[.slice (some ⟨g, 0, none⟩) n n, .int .i64 (D : Int), .int .i64 (s : Int), .int .i64 (N : Int), sv] w fun e w' => ∃ b, e = .returned (.slice (some ⟨b, 0, none⟩) n n) ∧ w'.heap[b]? = some (R8 5 (wrB bl D (cutB src s N))) ∧ w.heap.size ≤ b ∧ Kept [] w w' := by
  have M := Mem.start w []
  have HCB := hid (copyBytes_new g 0 n bl _ 5 (0, 0) n w hr (fun i hi => by rw [Nat.zero_add]; simp [hi]) hn.symm (by omega))
  obtain ⟨p, cap, rfl⟩ := hv.slice
  have HLD : Hid (∀ i, i < src.length → ∃ (b o : Nat) (cs : Array Value) (t : TypeId) (fr : Nat × Nat), p = some ⟨b, o, none⟩ ∧ w.heap[b]? = some (.cells cs t fr) ∧ cs[o + i]? = some (n8 (src.getD i 0))) := by
    intro i hi
    obtain ⟨_, ⟨rfl, _⟩ | ⟨_, b, o, c, cs, t, fr, e, h3, h4⟩⟩ := hv
    · simp at hi
    · injection e with e1 _ _
      exact ⟨b, o, cs, t, fr, e1, h3, h4 i hi⟩
  obtain ⟨m, hm⟩ : ∃ m, m = src.length := ⟨_, rfl⟩
  have HW0 : Hid (∀ i, i ≤ N → (wrB bl D (cutB src s i)).length = n) := fun i hi => by rw [wrB_length (by rw [cutB_length]; omega), hn]
  have HST : Hid (∀ i, i < N → (wrB bl D (cutB src s i)).set (D + i) (src.getD (s + i) 0) = wrB bl D (cutB src s (i + 1))) := fun i hi => lay_step (N := N) (by omega) hi
  have HSZ : Hid (∀ i, i < N → m ≤ s + i → (wrB bl D (cutB src s i)).set (D + i) 0 = wrB bl D (cutB src s (i + 1))) := fun i hi h => lay_zero (N := N) (by omega) hi (hm ▸ h)
  rw [← hm] at hsl HLD ⊢
  clear hv hr hn hm
  go_enter Salg.func104, Salg.ntmps104
  go_wp2_with fail
  refine HCB.out.mono ?_
  rintro e w2 ⟨b1, rfl, hr1, hb1, K⟩
  replace M := (M.call K).add hr1 (by simp)
  have h0 : wrB bl D (cutB src s 0) = bl := by rw [cutB_zero, wrB_nil]
  rw [← h0] at M
  clear K hr1 HCB h0
  go_wp2_with fail
  go_loopw [12] (fun iv wr => ∃ i : Nat, i ≤ N ∧ iv = .int .i64 (i : Int) ∧ Mem w [] [(b1, R8 5 (wrB bl D (cutB src s i)))] wr) (fun iv _ => (N - intOf iv).toNat)
  case atStart => exact ⟨0, Nat.zero_le _, rfl, M⟩
  case round =>
    clear M
    obtain ⟨i, hi, rfl, M⟩ := hrel
    rcases Nat.lt_or_ge i N with hlt | hge
    · rcases Nat.lt_or_ge (s + i) m with hin | hout
      · obtain ⟨sb, so, scs, st, sf, rfl, hsr, hsc⟩ := HLD.out (s + i) hin
        have HSC := hid hsc
        clear hsc
        go_wp2_with (first
          | ((with_reducible apply W_st8K (b := b1) (o := D + i) (m := 0)); rfl; rfl; rfl; exact M.r0; exact size5; (rw [HW0.out i hi]; omega); intro w3 K hr3; replace M := Mem.callPut (L1 := []) M (Or.inr hb1) K hr3; clear K hr3; simp only [List.cons_append, List.nil_append] at M)
          | ((with_reducible apply W_loadCell (b := sb) (i := so + (s + i)) (v := n8 (src.getD (s + i) 0))); (first | rfl | (simp [Act.eval]; done)); exact M.kept.row hsr (by simp); exact HSC.out; exact Salg.underlying5; rfl; simp only [Act.put, List.setIfInBounds_toArray, List.set_cons_zero, List.set_cons_succ])
          | ((with_reducible apply W_st8K (b := b1) (o := D + i) (m := src.getD (s + i) 0)); rfl; rfl; rfl; exact M.r0; exact size5; (rw [List.length_set, HW0.out i hi]; omega); intro w3 K hr3; replace M := Mem.callPut (L1 := []) M (Or.inr hb1) K hr3; clear K hr3; simp only [List.cons_append, List.nil_append] at M))
        rw [set_two, HST.out i hlt] at M
        go_roundw
        case rel => exact ⟨i + 1, by omega, by go_num, M⟩
        case measure => simp [intOf]; omega
      · go_wp2_with (first
          | ((with_reducible apply W_st8K (b := b1) (o := D + i) (m := 0)); rfl; rfl; rfl; exact M.r0; exact size5; (rw [HW0.out i hi]; omega); intro w3 K hr3; replace M := Mem.callPut (L1 := []) M (Or.inr hb1) K hr3; clear K hr3; simp only [List.cons_append, List.nil_append] at M))
        rw [HSZ.out i hlt hout] at M
        go_roundw
        case rel => exact ⟨i + 1, by omega, by go_num, M⟩
        case measure => simp [intOf]; omega
    · have hin : i = N := by omega
      subst hin
      go_wp2_with fail
      go_ret
      exact ⟨b1, rfl, M.r0, hb1, M.kept⟩

set_option maxHeartbeats 4000000 in
set_option maxRecDepth 100000 in
theorem laid_far (g n D s N : Nat) (bl src : List Nat) (sv : Value) (w : World) (hr : w.heap[g]? = some (R8 5 bl)) (hn : bl.length = n) (hn2 : n ≤ 128) (hv : DatV w sv src) (hsl : src.length ≤ 200) (hfit : D + N ≤ n) (hs : s < 64) : Calls Salg.prog 104 #[.slice (some ⟨g, 0, none⟩) n n, .int .i64 (D : Int), .int .i64 (-1), .int .i64 (N : Int), sv] w fun e w' => ∃ b, e = .returned (.slice (some ⟨b, 0, none⟩) n n) ∧ w'.heap[b]? = some (R8 5 (wrB bl D (cutB src (2 ^ 200 + s) N))) ∧ w.heap.size ≤ b ∧ Kept [] w w' := by
  have M := Mem.start w []
  have HCB := hid (copyBytes_new g 0 n bl _ 5 (0, 0) n w hr (fun i hi => by rw [Nat.zero_add]; simp [hi]) hn.symm (by omega))
  obtain ⟨p, cap, rfl⟩ := hv.slice
  have HLD : Hid (∀ i, i < src.length → ∃ (b o : Nat) (cs : Array Value) (t : TypeId) (fr : Nat × Nat), p = some ⟨b, o, none⟩ ∧ w.heap[b]? = some (.cells cs t fr) ∧ cs[o + i]? = some (n8 (src.getD i 0))) := by
    intro i hi
    obtain ⟨_, ⟨rfl, _⟩ | ⟨_, b, o, c, cs, t, fr, e, h3, h4⟩⟩ := hv
    · simp at hi
    · injection e with e1 _ _
      exact ⟨b, o, cs, t, fr, e1, h3, h4 i hi⟩
  obtain ⟨m, hm⟩ : ∃ m, m = src.length := ⟨_, rfl⟩
  have HW0 : Hid (∀ i, i ≤ N → (wrB bl D (cutB src (2 ^ 200 + s) i)).length = n) := fun i hi => by rw [wrB_length (by rw [cutB_length]; omega), hn]
  have HST : Hid (∀ i, i < N → (wrB bl D (cutB src (2 ^ 200 + s) i)).set (D + i) (src.getD ((2 ^ 200 + s) + i) 0) = wrB bl D (cutB src (2 ^ 200 + s) (i + 1))) := fun i hi => lay_step (N := N) (by omega) hi
  have HSZ : Hid (∀ i, i < N → m ≤ (2 ^ 200 + s) + i → (wrB bl D (cutB src (2 ^ 200 + s) i)).set (D + i) 0 = wrB bl D (cutB src (2 ^ 200 + s) (i + 1))) := fun i hi h => lay_zero (N := N) (by omega) hi (hm ▸ h)
  rw [← hm] at hsl HLD ⊢
  clear hv hr hn hm
  go_enter Salg.func104, Salg.ntmps104
  go_wp2_with fail
  refine HCB.out.mono ?_
  rintro e w2 ⟨b1, rfl, hr1, hb1, K⟩
  replace M := (M.call K).add hr1 (by simp)
  have h0 : wrB bl D (cutB src (2 ^ 200 + s) 0) = bl := by rw [cutB_zero, wrB_nil]
  rw [← h0] at M
  clear K hr1 HCB h0
  go_wp2_with fail
  go_loopw [12] (fun iv wr => ∃ i : Nat, i ≤ N ∧ iv = .int .i64 (i : Int) ∧ Mem w [] [(b1, R8 5 (wrB bl D (cutB src (2 ^ 200 + s) i)))] wr) (fun iv _ => (N - intOf iv).toNat)
  case atStart => exact ⟨0, Nat.zero_le _, rfl, M⟩
  case round =>
    clear M
    obtain ⟨i, hi, rfl, M⟩ := hrel
    rcases Nat.lt_or_ge i N with hlt | hge
    · have hfar : m ≤ 2 ^ 200 + s + i := Nat.le_trans hsl (Nat.le_trans (by decide : 200 ≤ 2 ^ 200) (by omega))
      have HFAR := hid hfar
      clear hfar
      go_wp2_with (first
        | ((with_reducible apply W_st8K (b := b1) (o := D + i) (m := 0)); rfl; rfl; rfl; exact M.r0; exact size5; (rw [HW0.out i hi]; omega); intro w3 K hr3; replace M := Mem.callPut (L1 := []) M (Or.inr hb1) K hr3; clear K hr3; simp only [List.cons_append, List.nil_append] at M))
      rw [HSZ.out i hlt HFAR.out] at M
      go_roundw
      case rel => exact ⟨i + 1, by omega, by go_num, M⟩
      case measure => simp [intOf]; omega
    · have hin : i = N := by omega
      subst hin
      go_wp2_with fail
      go_ret
      exact ⟨b1, rfl, M.r0, hb1, M.kept⟩
end Go.Proofs.YgcsalGreat

/-
  The walks of nat.BE32, yp.word, law.word8, law.equalBytes, law.wordsMeet.
-/
import Derived.Test.YgcsalGreatMv29
import Derived.Test.YgcsalGreatAlu1
set_option linter.unusedSimpArgs false
set_option linter.unusedVariables false
namespace Go.Own
theorem tl_tight {ds : List Nat} (h : Tight ds) : tl ds ds.length = ds.length := by
  rcases List.eq_nil_or_concat ds with rfl | ⟨l, x, rfl⟩
  · rfl
  · have hx := h x (by simp)
    simp [tl, hx]
theorem be_uniq : ∀ (n : Nat) (l m : List Nat), l.length = n → m.length = n → Small l → Small m → be l = be m → l = m
  | 0, l, m, h1, h2, _, _, _ => by rw [List.eq_nil_of_length_eq_zero h1, List.eq_nil_of_length_eq_zero h2]
  | n + 1, l, m, h1, h2, h3, h4, h5 => by
    rcases List.eq_nil_or_concat l with rfl | ⟨l', x, rfl⟩
    · simp at h1
    rcases List.eq_nil_or_concat m with rfl | ⟨m', y, rfl⟩
    · simp at h2
    have hx : x < 256 := h3 x (by simp)
    have hy : y < 256 := h4 y (by simp)
    simp only [List.concat_eq_append] at *
    rw [be_snoc, be_snoc] at h5
    have e1 : x = y := by omega
    have e2 : be l' = be m' := by omega
    rw [e1, be_uniq n l' m' (by simpa using h1) (by simpa using h2) (fun z hz => h3 z (by simp [hz])) (fun z hz => h4 z (by simp [hz])) e2]
theorem be_rev : ∀ ds : List Nat, be ds.reverse = val ds
  | [] => rfl
  | d :: ds => by rw [List.reverse_cons, be_snoc, be_rev ds, val]; omega
def beO (ds : List Nat) (i : Nat) : List Nat := List.replicate (32 - i) 0 ++ (ds.take i).reverse
theorem beO_len {ds : List Nat} {i : Nat} (h : i ≤ ds.length) (h2 : i ≤ 32) : (beO ds i).length = 32 := by simp [beO]; omega
theorem beO_set {ds : List Nat} {i d : Nat} (hd : ds[i]? = some d) (hi : i < 32) : (beO ds i).set (31 - i) d = beO ds (i + 1) := by
  unfold beO
  rw [show 32 - i = (31 - i) + 1 by omega, List.replicate_succ', List.append_assoc, List.set_append_right _ _ (by simp), List.length_replicate, Nat.sub_self, List.take_add_one, hd]
  simp
theorem beO_all {ds bs : List Nat} (hb : bs.length = 32) (hs : Small bs) (hd : Small ds) (hl : ds.length ≤ 32) (hv : val ds = be bs) : beO ds ds.length = bs := by
  apply be_uniq 32 _ _ (beO_len (Nat.le_refl _) hl) hb _ hs
  · rw [beO, be_app, List.take_of_length_le (Nat.le_refl _), be_rev, be_zeros (by intro x hx; rw [List.mem_replicate] at hx; exact hx.2), hv]
    omega
  · intro x hx
    rcases List.mem_append.1 hx with h | h
    · rw [List.mem_replicate] at h; omega
    · exact hd x (List.mem_of_mem_take (List.mem_reverse.1 h))
/-- The word of eight bytes. -/
def w8L (l : List Nat) : List Nat := List.replicate 24 0 ++ l
theorem w8_splice {l : List Nat} (h : l.length = 8) : (((List.replicate 32 0).map n8).toArray.toList.take 24 ++ l.map n8 ++ ((List.replicate 32 0).map n8).toArray.toList.drop (24 + (l.map n8).length)) = (w8L l).map n8 := by
  simp [w8L, h]
/-- A slice of words. -/
def wsL (wl : List (List Nat)) : List Value := wl.flatMap (fun a => a.map n8)
structure WsV (w : World) (v : Value) (wl : List (List Nat)) : Prop where
  ex : ∃ g cap cur, v = .slice (some ⟨g, 0, none⟩) wl.length cap ∧ w.heap[g]? = some (.cells cur 46 (0, 0)) ∧ wl.length ≤ cap ∧ ∀ (j : Nat) (u : Value), (wsL wl)[j]? = some u → cur[j]? = some u
  ok : ∀ p ∈ wl, p.length = 32 ∧ Small p
theorem WsV.kept {w w' : World} {v : Value} {wl : List (List Nat)} (h : WsV w v wl) (k : Kept [] w w') : WsV w' v wl := by
  obtain ⟨g, cap, cur, h1, h2, h3⟩ := h.ex
  exact ⟨⟨g, cap, cur, h1, k.row h2 (by simp), h3⟩, h.ok⟩
theorem wsL_at : ∀ {wl : List (List Nat)}, (∀ p ∈ wl, p.length = 32) → ∀ {i k : Nat} (hi : i < wl.length) {x : Nat}, wl[i][k]? = some x → (wsL wl)[i * 32 + k]? = some (n8 x)
  | [], _, i, k, hi, _, _ => by simp at hi
  | p :: l, h, 0, k, _, x, hx => by
    have hl := h p (by simp)
    have hk : k < p.length := (List.getElem?_eq_some_iff.1 hx).1
    simp only [wsL, List.flatMap_cons, Nat.zero_mul, Nat.zero_add]
    rw [List.getElem?_append_left (by simpa using hk), List.getElem?_map]
    simp only [List.getElem_cons_zero] at hx
    rw [hx]
    rfl
  | p :: l, h, i + 1, k, hi, x, hx => by
    have hl := h p (by simp)
    simp only [wsL, List.flatMap_cons]
    rw [List.getElem?_append_right (by simp [hl]; omega), List.length_map, hl, show (i + 1) * 32 + k - 32 = i * 32 + k by omega]
    exact wsL_at (fun q hq => h q (by simp [hq])) (by simpa using hi) (by simpa using hx)
end Go.Own
namespace Go.Proofs.YgcsalGreat
open Go.RowKit Go.Own
theorem size33' : (Salg.prog.info? 33).map (·.size) = some 8 := by kernel_rfl

set_option maxHeartbeats 4000000 in
set_option maxRecDepth 100000 in
theorem be32_any (v : Value) (bs : List Nat) (w : World) (hv : NumV w v (be bs)) (hb : bs.length = 32) (hs : Small bs) :
    Calls Salg.prog 175 #[v] w fun e w' => e = .returned (.tuple #[A8 bs, .bool true]) ∧ Kept [] w w' := by
  have M := Mem.start w []
  obtain ⟨ds, ⟨p, c, rfl, hc1, hc2, hd, hsm⟩, ht, hval⟩ := hv
  have hlen : ds.length ≤ 32 := ht.short (by rw [hval, ← hb]; exact be_lt bs hs)
  have HTR := hid (fun w' (K : Kept [] w w') => trim_any p c ds w' hc1 hc2 (hd.kept K))
  rw [tl_tight ht] at HTR
  have HALL := hid (beO_all hb hs hsm hlen hval)
  have HSET := hid (fun i d (h : ds[i]? = some d) (hi : i < 32) => beO_set h hi)
  have HDIG : Hid (∀ i, i < ds.length → ∃ b t cs d, p = some ⟨b, 0, none⟩ ∧ w.heap[b]? = some (R8 t cs) ∧ (cs.map n8).toArray[i]? = some (n8 d) ∧ ds[i]? = some d) := by
    intro i hi
    obtain ⟨b, t, cs, e1, e2, e3⟩ := hd.at hi
    exact ⟨b, t, cs, ds[i], e1, e2, by simp [pre_get e3 hi], List.getElem?_eq_getElem hi⟩
  have HLEN := hid (fun i (h : i ≤ ds.length) (h2 : i ≤ 32) => beO_len h h2)
  have HZ : Hid (beO ds 0 = List.replicate 32 0) := by show _ = _; simp [beO]
  have HB := hid hb
  clear hd ht hval hsm hs hc1 hc2 hb
  generalize ds.length = n at *
  have d1 : decide ((32 : Int) < (n : Int)) = false := by simp; omega
  go_enter Salg.func175, Salg.ntmps175
  go_wp2_with (first
    | ((with_reducible apply L_allocA (d := 2) M); exact zero22; clear M; intro t2 w1 ht2 M; simp only [Act.put, List.setIfInBounds_toArray, List.set_cons_zero, List.set_cons_succ])
    | ((with_reducible apply L_allocA (d := 4) M); exact zero22; clear M; intro t4 w2 ht4 M; simp only [Act.put, List.setIfInBounds_toArray, List.set_cons_zero, List.set_cons_succ]))
  refine (HTR.out _ M.kept).mono ?_
  rintro e w3 ⟨rfl, hw⟩
  replace hw := hw.symm
  subst hw
  go_wp2_with fail
  go_loopw [15] (fun iv wr => ∃ i : Nat, i ≤ n ∧ iv = .int .i64 i ∧ Mem w [] [(t4, R8 22 (beO ds i)), (t2, R8 22 (List.replicate 32 0))] wr) (fun iv _ => ((n : Int) - intOf iv).toNat)
  case atStart => exact ⟨0, by omega, rfl, by rw [HZ.out]; exact M⟩
  case round =>
    clear M
    obtain ⟨i, hi, rfl, M⟩ := hrel
    rcases Nat.lt_or_ge i n with hlt | hge
    · obtain ⟨b, t, cs, d, rfl, hr, hg, hd⟩ := HDIG.out i hlt
      have HST := hid (HSET.out i d hd (by omega))
      have hle : 31 - i < (beO ds i).length := by rw [HLEN.out i (by omega) (by omega)]; omega
      clear hd
      go_wp2_with (first
        | ((with_reducible apply W_loadCell); rfl; exact M.kept.row hr (by simp); exact hg; exact Salg.underlying5; rfl; simp only [Act.put, List.setIfInBounds_toArray, List.set_cons_zero, List.set_cons_succ])
        | ((with_reducible apply W_st8_0 (o := 31 - i) (m := d)); rfl; rfl; rfl; exact M; exact Or.inr ht4; exact size5; exact hle; clear M; intro w5 M; rw [HST.out] at M))
      go_roundw
      case rel => exact ⟨i + 1, by omega, by go_num, M⟩
      case measure => simp [intOf]; omega
    · have hin : n = i := by omega
      subst hin
      rw [HALL.out] at M
      have HON : Hid (∀ u ∈ (bs.map n8).toArray.toList, u.oneCell' = true) := by
        intro u hu
        simp at hu
        obtain ⟨x, _, rfl⟩ := hu
        rfl
      go_wp2_with (first
        | ((with_reducible apply W_loadAll); rfl; exact M.r0; exact Salg.underlying22; rfl; (rw [size22]; simp [HB.out]); simp only [Act.put, List.setIfInBounds_toArray, List.set_cons_zero, List.set_cons_succ])
        | ((with_reducible apply W_storeK (b := t2) (vs := (bs.map n8).toArray)); rfl; rfl; exact M.r1; exact size22; (simp [HB.out]); exact HON.out; intro w6 K hr3; replace M := Mem.callPut (L1 := [(t4, _)]) M (Or.inr ht2) K hr3; clear K hr3; simp only [List.cons_append, List.nil_append] at M))
      exact ret_ct Salg.results175 rfl M.r1 Salg.underlying22 rfl (by rw [size22]; simp [HB.out]) rfl ⟨rfl, M.kept⟩

set_option maxHeartbeats 4000000 in
set_option maxRecDepth 100000 in
theorem word_any (v : Value) (bs : List Nat) (w : World) (hv : NumV w v (be bs)) (hb : bs.length = 32) (hs : Small bs) :
    Calls Salg.prog 102 #[v] w fun e w' => e = .returned (A8 bs) ∧ Kept [] w w' := by
  have M := Mem.start w []
  have HB := hid hb
  have HC := hid (fun w' (K : Kept [] w w') => be32_any v bs w' (hv.kept K) hb hs)
  have HON : Hid (∀ u ∈ (bs.map n8).toArray.toList, u.oneCell' = true) := by
    intro u hu
    simp at hu
    obtain ⟨x, _, rfl⟩ := hu
    rfl
  clear hv hb hs
  go_enter Salg.func102, Salg.ntmps102
  go_wp2_with ((with_reducible apply L_allocA (d := 2) M); exact zero46; clear M; intro t2 w1 ht2 M; simp only [Act.put, List.setIfInBounds_toArray, List.set_cons_zero, List.set_cons_succ])
  refine (HC.out _ M.kept).mono ?_
  rintro e w2 ⟨rfl, K⟩
  replace M := M.call K
  clear K
  go_wp2_with (first
    | ((with_reducible apply L_allocA (d := 3) M); exact zero22; clear M; intro t3 w3 ht3 M; simp only [Act.put, List.setIfInBounds_toArray, List.set_cons_zero, List.set_cons_succ])
    | ((with_reducible apply W_storeK (b := t3) (vs := (bs.map n8).toArray)); rfl; rfl; exact M.r0; exact size22; (simp [HB.out]); exact HON.out; intro w6 K hr3; replace M := Mem.callPut (L1 := []) M (Or.inr ht3) K hr3; clear K hr3; simp only [List.cons_append, List.nil_append] at M)
    | ((with_reducible apply W_loadAll); rfl; exact M.r0; exact Salg.underlying22; rfl; (rw [size22]; simp [HB.out]); simp only [Act.put, List.setIfInBounds_toArray, List.set_cons_zero, List.set_cons_succ])
    | ((with_reducible apply W_storeK (b := t2) (vs := (bs.map n8).toArray)); rfl; rfl; exact M.r1; exact size46; (simp [HB.out]); exact HON.out; intro w6 K hr3; replace M := Mem.callPut (L1 := [(t3, _)]) M (Or.inr ht2) K hr3; clear K hr3; simp only [List.cons_append, List.nil_append] at M))
  exact ret_cell1 Salg.results102 rfl M.r1 Salg.underlying46 rfl (by rw [size46]; simp [HB.out]) rfl ⟨rfl, M.kept⟩

set_option maxHeartbeats 4000000 in
set_option maxRecDepth 100000 in
theorem word8_any (l : List Nat) (w : World) (hl : l.length = 8) :
    Calls Salg.prog 99 #[A8 l] w fun e w' => e = .returned (A8 (w8L l)) ∧ Kept [] w w' := by
  have M := Mem.start w []
  have HB := hid hl
  have HSP := hid (w8_splice hl)
  have HL2 : Hid ((w8L l).length = 32) := by show _ = _; simp [w8L, hl]
  have HLE : Hid ((l.map n8).length = min 8 8) := by show _ = _; simp [hl]
  have HFI : Hid (24 + (l.map n8).length ≤ ((List.replicate 32 0).map n8).toArray.size) := by show _ ≤ _; simp [hl]
  have HX : Hid (∀ (j : Nat) (u : Value), (l.map n8)[j]? = some u → (l.map n8).toArray[0 + j]? = some u) := by intro j u hj; simpa using hj
  have HON : Hid (∀ u ∈ l.map n8, u.oneCell' = true) := by
    intro u hu
    obtain ⟨x, _, rfl⟩ := List.mem_map.1 hu
    rfl
  have HON2 : Hid (∀ u ∈ ((w8L l).map n8).toArray.toList, u.oneCell' = true) := by
    intro u hu
    simp at hu
    obtain ⟨x, _, rfl⟩ := hu
    rfl
  clear hl
  go_enter Salg.func99, Salg.ntmps99
  go_wp2_with (first
    | ((with_reducible apply L_box (d := 1) M); rfl; clear M; intro t1 w1 ht1 M; simp only [Act.put, List.setIfInBounds_toArray, List.set_cons_zero, List.set_cons_succ])
    | ((with_reducible apply L_allocA (d := 2) M); exact zero46; clear M; intro t2 w2 ht2 M; simp only [Act.put, List.setIfInBounds_toArray, List.set_cons_zero, List.set_cons_succ])
    | ((with_reducible apply L_allocA (d := 3) M); exact zero46; clear M; intro t3 w3 ht3 M; simp only [Act.put, List.setIfInBounds_toArray, List.set_cons_zero, List.set_cons_succ]))
  refine S_region (by kernel_rfl) ?_
  refine V_quiet 0 2 (by kernel_rfl) (by decide) M.drew ?_
  clear M
  simp only [List.take_succ_cons, List.take_zero, List.drop_zero, List.drop_succ_cons, Nat.sub_zero, Nat.reduceSub]
  ((with_reducible apply V_run); rfl; (intro w M; exact run_sliceArr (l := 24) (h := 32) (m := 32) rfl Salg.underlying46 size5 (by (first | exact Or.inl ⟨rfl, rfl⟩ | exact Or.inr ⟨_, _, _, rfl, rfl, by omega⟩)) (by (first | exact Or.inl ⟨rfl, rfl⟩ | exact Or.inr ⟨_, _, _, rfl, rfl, by omega⟩)) (by (first | exact Or.inl ⟨rfl, rfl⟩ | exact Or.inr ⟨_, _, _, rfl, rfl, by omega⟩)) (by first | exact Or.inl rfl | exact Or.inr rfl) (by omega) (by omega) (by omega) (by omega)); (try simp only [Nat.zero_add, Nat.sub_zero]); simp only [Act.put, List.setIfInBounds_toArray, List.set_cons_zero, List.set_cons_succ])
  ((with_reducible apply V_run); rfl; (intro w M; exact run_sliceArr (l := 0) (h := 8) (m := 8) rfl Salg.underlying33 size5 (by (first | exact Or.inl ⟨rfl, rfl⟩ | exact Or.inr ⟨_, _, _, rfl, rfl, by omega⟩)) (by (first | exact Or.inl ⟨rfl, rfl⟩ | exact Or.inr ⟨_, _, _, rfl, rfl, by omega⟩)) (by (first | exact Or.inl ⟨rfl, rfl⟩ | exact Or.inr ⟨_, _, _, rfl, rfl, by omega⟩)) (by first | exact Or.inl rfl | exact Or.inr rfl) (by omega) (by omega) (by omega) (by omega)); (try simp only [Nat.zero_add, Nat.sub_zero]); simp only [Act.put, List.setIfInBounds_toArray, List.set_cons_zero, List.set_cons_succ])
  refine V_nil ?_
  intro w4 M
  refine S_seg 2 3 (by kernel_rfl) (by decide) ?_
  simp only [List.take_succ_cons, List.take_zero, List.drop_zero, List.drop_succ_cons, Nat.sub_zero, Nat.reduceSub]
  go_wp2_with ((with_reducible apply W_copyAt (b := t3) (o := 24) (b' := t1) (so := 0) (news := l.map n8) (cur := ((List.replicate 32 0).map n8).toArray) (t := 46)); rfl; rfl; exact Salg.underlying40; exact size5; exact M.r0; exact M.r2; exact HLE.out; exact HX.out; exact HFI.out; exact HON.out; intro w5 K hr4; rw [HSP.out] at hr4; replace M := Mem.callPut (L1 := []) M (Or.inr ht3) K hr4; clear K hr4; simp only [List.nil_append] at M; simp only [Act.put, List.setIfInBounds_toArray, List.set_cons_zero, List.set_cons_succ])
  refine S_done ?_
  go_wp2_with (first
    | ((with_reducible apply W_loadAll); rfl; exact M.r0; exact Salg.underlying46; rfl; (rw [size46]; simp [HL2.out]); simp only [Act.put, List.setIfInBounds_toArray, List.set_cons_zero, List.set_cons_succ])
    | ((with_reducible apply W_storeK (b := t2) (vs := ((w8L l).map n8).toArray)); rfl; rfl; exact M.r1; exact size46; (simp [HL2.out]); exact HON2.out; intro w6 K hr3; replace M := Mem.callPut (L1 := [(t3, _)]) M (Or.inr ht2) K hr3; clear K hr3; simp only [List.cons_append, List.nil_append] at M))
  exact ret_cell1 Salg.results99 rfl M.r1 Salg.underlying46 rfl (by rw [size46]; simp [HL2.out]) rfl ⟨rfl, M.kept⟩

set_option maxHeartbeats 4000000 in
set_option maxRecDepth 100000 in
theorem equalBytes_yes (b o t b' o' t' cp cp' : Nat) (cs cs' : Array Value) (l : List Nat) (n : Nat) (w : World) (hr : w.heap[b]? = some (.cells cs t (0, 0))) (hr' : w.heap[b']? = some (.cells cs' t' (0, 0))) (hc : ∀ k x, l[k]? = some x → cs[o + k]? = some (n8 x)) (hc' : ∀ k x, l[k]? = some x → cs'[o' + k]? = some (n8 x)) (hl : l.length = n) (hs : Small l) :
    Calls Salg.prog 105 #[.slice (some ⟨b, o, none⟩) n cp, .slice (some ⟨b', o', none⟩) n cp'] w fun e w' => e = .returned (.bool true) ∧ w' = w := by
  have HC := hid hc
  have HC' := hid hc'
  have HS := hid hs
  have HL := hid hl
  clear hc hc' hs hl
  go_enter Salg.func105, Salg.ntmps105
  go_wp2_with (first
    | ((with_reducible apply L_run); rfl; exact run_convAt (l := l) rfl (hr) HC.out HS.out HL.out Salg.underlying40 Salg.underlying5 Salg.underlying9; simp only [Act.put, List.setIfInBounds_toArray, List.set_cons_zero, List.set_cons_succ])
    | ((with_reducible apply L_run); rfl; exact run_convAt (l := l) rfl (hr') HC'.out HS.out HL.out Salg.underlying40 Salg.underlying5 Salg.underlying9; simp only [Act.put, List.setIfInBounds_toArray, List.set_cons_zero, List.set_cons_succ]))
  go_ret
  exact ⟨by simp, rfl⟩
end Go.Proofs.YgcsalGreat

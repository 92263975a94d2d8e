/-
  Lists of addresses: the walks of yp.listed, yp.withAddr, (*yp.World).warm.
-/
import Derived.Test.YgcsalGreatMv6
import Derived.Test.YgcsalGreatCalls2
set_option linter.unusedSimpArgs false
set_option linter.unusedVariables false
namespace Go.Own
theorem own_keptY {w w' : World} {base : Nat} {e : TypeId} {s n : Nat} {v : Value} {xs : List Value} {X : List Nat} (h : w.ownsRow base e s v n xs) (k : Kept X w w') (hx : ∀ g, v.ownBlock = some g → g ∉ X) : w'.ownsRow base e s v n xs := by
  refine ⟨h.1, ?_⟩
  rcases h.2 with h1 | ⟨g, cap, cur, h1, h2, h3, h4⟩
  · exact .inl h1
  · exact .inr ⟨g, cap, cur, h1, h2, k.row h3 (hx g (by rw [h1]; rfl)), h4⟩
def adsL (l : List (List Nat)) : List Value := l.flatMap (fun a => a.map n8)
structure AdOk (a : List Nat) : Prop where
  ha : a.length = 20
  hs : Small a
theorem adsL_at : ∀ {l : List (List Nat)}, (∀ p ∈ l, AdOk p) → ∀ {i : Nat} (hi : i < l.length), ((adsL l).drop (i * 20)).take 20 = l[i].map n8
  | [], _, i, hi => by simp at hi
  | p :: l, h, 0, _ => by
    have := (h p (by simp)).ha
    simp only [adsL, List.flatMap_cons, Nat.zero_mul, List.drop_zero, List.getElem_cons_zero]
    rw [List.take_append_of_le_length (by simp; omega), List.take_of_length_le (by simp; omega)]
  | p :: l, h, i + 1, hi => by
    have hl := (h p (by simp)).ha
    simp only [adsL, List.flatMap_cons, List.getElem_cons_succ]
    rw [List.drop_append, List.drop_of_length_le (by simp; omega), List.nil_append, show (i + 1) * 20 - (p.map n8).length = i * 20 by simp; omega]
    exact adsL_at (fun q hq => h q (by simp [hq])) (by simpa using hi)
structure AdsV (w : World) (v : Value) (l : List (List Nat)) : Prop where
  own : w.ownsRow 0 45 20 v l.length (adsL l)
  ok : ∀ p ∈ l, AdOk p
  len : l.length ≤ 1000
theorem AdsV.kept {w w' : World} {v : Value} {l : List (List Nat)} (h : AdsV w v l) (k : Kept [] w w') : AdsV w' v l := ⟨own_kept h.own k, h.ok, h.len⟩
theorem AdsV.at {w : World} {v : Value} {l : List (List Nat)} (h : AdsV w v l) {i : Nat} (hi : i < l.length) : ∃ g cap cur, v = .slice (some ⟨g, 0, none⟩) l.length cap ∧ w.heap[g]? = some (.cells cur 45 (0, 0)) ∧ i * 20 + 20 ≤ cur.size ∧ cur.extract (i * 20) (i * 20 + 20) = (l[i].map n8).toArray := by
  rcases h.own.2 with ⟨_, h1⟩ | ⟨g, cap, cur, h1, h2, h3, h4, h5, h6, h7⟩
  · omega
  · refine ⟨g, cap, cur, h1, h3, ?_, ?_⟩
    · rw [h6]
      have : i + 1 ≤ cap := by omega
      have := Nat.mul_le_mul_right 20 this
      omega
    · have e := adsL_at h.ok hi
      rw [← h7, List.drop_take] at e
      rw [← e]
      apply Array.ext'
      simp only [Array.toList_extract, List.extract_eq_take_drop, List.take_take]
      congr 1
      have : (i + 1) * 20 ≤ l.length * 20 := Nat.mul_le_mul_right 20 (by omega)
      omega
theorem AdsV.shape {w : World} {v : Value} {l : List (List Nat)} (h : AdsV w v l) : ∃ p n cap, v = .slice p n cap ∧ n = l.length := by
  rcases h.own.2 with ⟨h1, h2⟩ | ⟨g, cap, cur, h1, _⟩
  · exact ⟨none, 0, 0, h1, h2.symm⟩
  · exact ⟨_, _, _, h1, rfl⟩
def adPut (a : List Nat) : Bool → List (List Nat) → List (List Nat)
  | t, [] => if t then [] else [a]
  | t, x :: l => (if !t && adLt a x then [a] else []) ++ x :: adPut a (t || adLt a x) l
def adWith (l : List (List Nat)) (a : List Nat) : List (List Nat) := if a ∈ l then l else adPut a false l
theorem adsL_snoc (l : List (List Nat)) (q : List Nat) : adsL (l ++ [q]) = adsL l ++ q.map n8 := by simp [adsL]
theorem adPut_ok {q : List Nat} (hq : AdOk q) : ∀ t l, (∀ p ∈ l, AdOk p) → ∀ p ∈ adPut q t l, AdOk p
  | t, [], _, p, hp => by
    simp only [adPut] at hp
    split at hp
    · simp at hp
    · simp at hp; subst hp; exact hq
  | t, x :: l, h, p, hp => by
    simp only [adPut, List.mem_append, List.mem_cons] at hp
    rcases hp with hp | rfl | hp
    · split at hp
      · simp at hp; subst hp; exact hq
      · simp at hp
    · exact h _ (by simp)
    · exact adPut_ok hq _ l (fun r hr => h r (by simp [hr])) p hp
end Go.Own
namespace Go.Proofs.YgcsalGreat
open Go.RowKit Go.Own
theorem zero45s : ((Salg.prog.info? 45).bind (·.zero)).isSome = true := by kernel_rfl
theorem size109 : (Salg.prog.info? 109).map (·.size) = some 1 := by kernel_rfl

set_option maxHeartbeats 4000000 in
set_option maxRecDepth 100000 in
theorem listed_any (v : Value) (l : List (List Nat)) (a : List Nat) (w : World) (hv : AdsV w v l) (ha : AdOk a) : Calls Salg.prog 192 #[v, A8 a] w fun e w' => e = .returned (.bool (decide (a ∈ l))) ∧ Kept [] w w' := by
  have M := Mem.start w []
  have hlen := hv.len
  have HV := hid hv
  have ha20 := ha.ha
  clear hv
  obtain ⟨p, n, cap, rfl, hn⟩ := HV.out.shape
  have HN := hid hn
  have hn1 : n ≤ 1000 := by omega
  clear hn hlen
  go_enter Salg.func192, Salg.ntmps192
  go_wp2_with ((with_reducible apply L_box (d := 3) M); rfl; clear M; intro c1 w1 hc1 M; simp only [Act.put, List.setIfInBounds_toArray, List.set_cons_zero, List.set_cons_succ])
  go_loopw [9] (fun iv wr => ∃ i : Nat, i ≤ n ∧ iv = .int .i64 i ∧ (∀ j (hj : j < i) (hl : j < l.length), l[j] ≠ a) ∧ Mem w [] [(c1, R8 45 a)] wr) (fun iv _ => (n - intOf iv).toNat)
  case atStart => exact ⟨0, by omega, rfl, fun j hj => by omega, M⟩
  case round =>
    clear M
    obtain ⟨i, hi, rfl, hno, M⟩ := hrel
    have HNO := hid hno
    clear hno
    rcases Nat.lt_or_ge i n with hlt | hge
    · have hil : i < l.length := by rw [← HN.out]; exact hlt
      obtain ⟨g, cap', cur, hpe, hrg, hsz, hex⟩ := HV.out.at hil
      cases hpe
      have hxo := HV.out.ok l[i] (List.getElem_mem hil)
      have hx20 := hxo.ha
      have HEX := hid hex
      have HIN : Hid (l[i] = a → decide (a ∈ l) = true) := fun h => decide_eq_true (h ▸ List.getElem_mem hil)
      have HNE : Hid (l[i] ≠ a → ∀ j (hj : j < i + 1) (hl : j < l.length), l[j] ≠ a) := by
        intro hne j hj hl
        by_cases hji : j = i
        · subst hji; exact hne
        · exact HNO.out j (by omega) hl
      clear hxo hex HNO
      generalize l[i] = x at *
      by_cases hq : x = a
      · have HQ := hid (HIN.out hq)
        have DQ : Hid (decide (x = a) = true) := decide_eq_true hq
        clear HIN HNE hq
        go_wp2_with (first
          | ((with_reducible apply W_load (n := 20) (o := i * 20)); rfl; exact M.kept.row hrg (by simp); exact Salg.underlying45; rfl; exact size45; exact hsz; rw [HEX.out]; simp only [Act.put, List.setIfInBounds_toArray, List.set_cons_zero, List.set_cons_succ])
          | ((with_reducible apply L_allocA (d := 6) M); exact zero45; clear M; intro c3 w1 hc3 M; simp only [Act.put, List.setIfInBounds_toArray, List.set_cons_zero, List.set_cons_succ])
          | ((with_reducible apply W_storeK (b := c3)); rfl; rfl; exact M.r0; exact size45; (first | rfl | simp [hx20]); exact one8 _; intro w3 K hr3; replace M := Mem.callPut (L1 := []) M (Or.inr (by assumption)) K hr3; clear K hr3; simp only [List.cons_append, List.nil_append] at M)
          | ((with_reducible apply W_loadAll); rfl; (first | with_reducible exact M.r0 | with_reducible exact M.r1 | with_reducible exact M.r2 | with_reducible exact M.r3 | with_reducible exact M.r4 | with_reducible exact M.r5 | with_reducible exact M.r6 | assumption | exact M.kept.row (by assumption) (by simp)); exact Salg.underlying45; rfl; (first | with_reducible exact size45 | (rw [size45]; simp [hx20, ha20])); simp only [Act.put, List.setIfInBounds_toArray, List.set_cons_zero, List.set_cons_succ])
          | ((with_reducible apply W_eql8); rfl; rfl; exact Salg.underlying45; exact Salg.underlying5; exact size5; exact guard45; exact hx20; exact ha20; rw [DQ.out]; simp only [Act.put, List.setIfInBounds_toArray, List.set_cons_zero, List.set_cons_succ]))
        go_ret
        exact ⟨by rw [HQ.out]; rfl, M.kept⟩
      · have HNE2 := hid (HNE.out hq)
        have DQ : Hid (decide (x = a) = false) := decide_eq_false hq
        clear HIN HNE hq
        go_wp2_with (first
          | ((with_reducible apply W_load (n := 20) (o := i * 20)); rfl; exact M.kept.row hrg (by simp); exact Salg.underlying45; rfl; exact size45; exact hsz; rw [HEX.out]; simp only [Act.put, List.setIfInBounds_toArray, List.set_cons_zero, List.set_cons_succ])
          | ((with_reducible apply L_allocA (d := 6) M); exact zero45; clear M; intro c3 w1 hc3 M; simp only [Act.put, List.setIfInBounds_toArray, List.set_cons_zero, List.set_cons_succ])
          | ((with_reducible apply W_storeK (b := c3)); rfl; rfl; exact M.r0; exact size45; (first | rfl | simp [hx20]); exact one8 _; intro w3 K hr3; replace M := Mem.callPut (L1 := []) M (Or.inr (by assumption)) K hr3; clear K hr3; simp only [List.cons_append, List.nil_append] at M)
          | ((with_reducible apply W_loadAll); rfl; (first | with_reducible exact M.r0 | with_reducible exact M.r1 | with_reducible exact M.r2 | with_reducible exact M.r3 | with_reducible exact M.r4 | with_reducible exact M.r5 | with_reducible exact M.r6 | assumption | exact M.kept.row (by assumption) (by simp)); exact Salg.underlying45; rfl; (first | with_reducible exact size45 | (rw [size45]; simp [hx20, ha20])); simp only [Act.put, List.setIfInBounds_toArray, List.set_cons_zero, List.set_cons_succ])
          | ((with_reducible apply W_eql8); rfl; rfl; exact Salg.underlying45; exact Salg.underlying5; exact size5; exact guard45; exact hx20; exact ha20; rw [DQ.out]; simp only [Act.put, List.setIfInBounds_toArray, List.set_cons_zero, List.set_cons_succ]))
        replace M := M.tail
        go_roundw
        case rel => exact ⟨i + 1, by omega, by go_num, HNE2.out, M⟩
        case measure => simp [intOf]; omega
    · have hin : i = n := by omega
      subst hin
      have HM : Hid (decide (a ∈ l) = false) := decide_eq_false (fun h => by
        obtain ⟨j, hj, he⟩ := List.getElem_of_mem h
        exact HNO.out j (by rw [HN.out]; exact hj) hj he)
      clear HNO
      go_wp2_with fail
      go_ret
      exact ⟨by rw [HM.out]; rfl, M.kept⟩

set_option maxHeartbeats 4000000 in
set_option maxRecDepth 100000 in
theorem withAddr_any (v : Value) (l : List (List Nat)) (a : List Nat) (w : World) (hv : AdsV w v l) (ha : AdOk a) (hll : l.length ≤ 400) : Calls Salg.prog 167 #[v, A8 a] w fun e w' => ∃ v', e = .returned v' ∧ AdsV w' v' (adWith l a) ∧ Kept [] w w' := by
  have M := Mem.start w []
  have HV := hid hv
  have ha20 := ha.ha
  have HLI := hid (fun w' (K : Kept [] w w') => listed_any v l a w' (hv.kept K) ha)
  clear hv
  by_cases hin : a ∈ l
  · rw [decide_eq_true hin] at HLI
    have HE : Hid (adWith l a = l) := by show _ = _; rw [adWith, if_pos hin]
    rw [HE.out]
    clear hin HE
    go_enter Salg.func167, Salg.ntmps167
    go_wp2_with (first
      | ((with_reducible apply L_box (d := 3) M); rfl; clear M; intro c1 w1 hc1 M; simp only [Act.put, List.setIfInBounds_toArray, List.set_cons_zero, List.set_cons_succ])
      | ((with_reducible apply W_loadAll); rfl; (first | with_reducible exact M.r0 | with_reducible exact M.r1 | with_reducible exact M.r2 | with_reducible exact M.r3 | with_reducible exact M.r4 | with_reducible exact M.r5 | with_reducible exact M.r6 | assumption | exact M.kept.row (by assumption) (by simp)); exact Salg.underlying45; rfl; (first | with_reducible exact size45 | (rw [size45]; simp [ha20])); simp only [Act.put, List.setIfInBounds_toArray, List.set_cons_zero, List.set_cons_succ]))
    refine (HLI.out _ M.kept).mono ?_
    rintro e w2 ⟨rfl, K⟩
    replace M := M.call K
    go_wp2_with fail
    go_ret
    exact ⟨_, rfl, HV.out.kept M.kept, M.kept⟩
  · rw [decide_eq_false hin] at HLI
    have HE : Hid (adWith l a = adPut a false l) := by show _ = _; rw [adWith, if_neg hin]
    rw [HE.out]
    clear hin HE
    obtain ⟨p, n, cap, rfl, hn⟩ := HV.out.shape
    have HN := hid hn
    have hn1 : n ≤ 400 := by omega
    clear hn hll
    go_enter Salg.func167, Salg.ntmps167
    go_wp2_with (first
      | ((with_reducible apply L_box (d := 3) M); rfl; clear M; intro c1 w1 hc1 M; simp only [Act.put, List.setIfInBounds_toArray, List.set_cons_zero, List.set_cons_succ])
      | ((with_reducible apply W_loadAll); rfl; (first | with_reducible exact M.r0 | with_reducible exact M.r1 | with_reducible exact M.r2 | with_reducible exact M.r3 | with_reducible exact M.r4 | with_reducible exact M.r5 | with_reducible exact M.r6 | assumption | exact M.kept.row (by assumption) (by simp)); exact Salg.underlying45; rfl; (first | with_reducible exact size45 | (rw [size45]; simp [ha20])); simp only [Act.put, List.setIfInBounds_toArray, List.set_cons_zero, List.set_cons_succ]))
    refine (HLI.out _ M.kept).mono ?_
    rintro e w2 ⟨rfl, K⟩
    replace M := M.call K
    clear K HLI
    go_wp2_with fail
    have hc1B : c1 < w2.heap.size := lt_of_row M.r0
    go_loopw [5, 6, 15] (fun lv tv iv wr => ∃ (i : Nat) (t : Bool) (out : List (List Nat)), i ≤ n ∧ iv = .int .i64 i ∧ tv = .bool t ∧ out.length ≤ 2 * i ∧ out ++ adPut a t (l.drop i) = adPut a false l ∧ (∀ p ∈ out, AdOk p) ∧ wr.ownsRow w2.heap.size 45 20 lv out.length (adsL out) ∧ w2.heap.size ≤ wr.heap.size ∧ Mem w [] [(c1, R8 45 a)] wr) (fun _ _ iv _ => (n - intOf iv).toNat)
    case atStart => exact ⟨0, false, [], by omega, rfl, rfl, by simp, by simp, by simp, own_nil _ _ _ _, Nat.le_refl _, M⟩
    case round =>
      clear M
      obtain ⟨i, t, out, hi, rfl, rfl, hol, hpu, hok, hown, hBw, M⟩ := hrel
      have HPU := hid hpu
      have HOK := hid hok
      have OWN := hid hown
      clear hpu hok hown
      generalize hlv : u5 = lv at *
      rcases Nat.lt_or_ge i n with hlt | hge
      · have hil : i < l.length := by rw [← HN.out]; exact hlt
        obtain ⟨g, cap', cur, hpe, hrg, hsz, hex⟩ := HV.out.at hil
        cases hpe
        have hxo := HV.out.ok l[i] (List.getElem_mem hil)
        have HXO := hid hxo
        have hx20 := hxo.ha
        have HEX := hid hex
        have HBE := hid (fun w => before_any a l[i] w ha.ha hxo.ha ha.hs hxo.hs)
        have HDR : Hid (l.drop i = l[i] :: l.drop (i + 1)) := List.drop_eq_getElem_cons hil
        rw [HDR.out, adPut] at HPU
        clear hxo hex HDR
        generalize l[i] = x at *
        cases t
        · cases hlt2 : adLt a x
          · have DL : Hid (adLt a x = false) := hlt2
            simp only [hlt2, Bool.not_false, Bool.and_false, Bool.or_false, Bool.false_eq_true, if_false, List.nil_append] at HPU
            clear hlt2
            go_wp2_with (first
              | ((with_reducible apply W_load (n := 20) (o := i * 20)); rfl; exact M.kept.row hrg (by simp); exact Salg.underlying45; rfl; exact size45; exact hsz; rw [HEX.out]; simp only [Act.put, List.setIfInBounds_toArray, List.set_cons_zero, List.set_cons_succ])
              | ((with_reducible apply L_allocN (d := 8) M); exact zero45; clear M; intro c3 w5 hc3 hc3N K5 M; have HG3 : Hid (∀ g', Value.ownBlock lv = some g' → g' ≠ c3) := (fun g' hg' => by have := (own_block OWN.out hg').2; omega); replace OWN := hid (own_kept OWN.out K5); replace hBw := Nat.le_trans hBw K5.size; clear K5; simp only [Act.put, List.setIfInBounds_toArray, List.set_cons_zero, List.set_cons_succ])
              | ((with_reducible apply W_storeK (b := c3) (vs := (x.map n8).toArray)); rfl; rfl; exact M.r0; exact size45; (simp [hx20]); exact one8 _; intro w3 K hr3; replace OWN := hid (own_keptY OWN.out K (by intro g' hg'; simpa using HG3.out g' hg')); replace hBw := Nat.le_trans hBw K.size; replace M := Mem.callPut (L1 := []) M (Or.inr (by assumption)) K hr3; clear K hr3; simp only [List.cons_append, List.nil_append] at M)
              | ((with_reducible apply W_loadAllG (dst := 22)); rfl; rfl; exact M.r1; exact Salg.underlying45; rfl; (rw [size45]; simp [ha20]); simp only [Act.put, List.setIfInBounds_toArray, List.set_cons_zero, List.set_cons_succ])
              | ((with_reducible apply W_loadAllG (dst := 23)); rfl; rfl; exact M.r0; exact Salg.underlying45; rfl; (rw [size45]; simp [hx20]); simp only [Act.put, List.setIfInBounds_toArray, List.set_cons_zero, List.set_cons_succ])
              | ((with_reducible apply W_loadAll (dst := 31)); rfl; exact M.r0; exact Salg.underlying45; rfl; (rw [size45]; simp [hx20]); simp only [Act.put, List.setIfInBounds_toArray, List.set_cons_zero, List.set_cons_succ])
              | ((with_reducible apply W_buildOne (d := 32) M); rfl; exact Salg.underlying109; exact size45; exact zero45s; (simp [hx20]); decide; decide; clear M; intro bn w6 hbn hbnN K6 M; replace OWN := hid (own_kept OWN.out K6); replace hBw := Nat.le_trans hBw K6.size; clear K6; simp only [Act.put, List.setIfInBounds_toArray, List.set_cons_zero, List.set_cons_succ])
              | ((with_reducible apply W_appendOne (d := 33) (base := w2.heap.size) (n := (out).length) M.tail.tail info45 Salg.underlying109); kernel_rfl; decide; decide; rfl; rfl; exact OWN.out; (first | omega | (simp only [List.length_append, List.length_cons, List.length_nil]; omega)); exact M.r0; (simp [hx20]); exact one8 _; exact Nat.le_of_lt (Nat.lt_of_le_of_lt hc1 hc1B); exact hBw; exact (by intro p hp e; have hb := own_block OWN.out e; simp only [List.mem_cons, List.not_mem_nil, or_false] at hp; rcases hp with rfl; (have := hb.1; omega)); clear M; intro lv' w7 M hown' hBw'; replace OWN : Hid (w7.ownsRow w2.heap.size 45 20 lv' (out ++ [x]).length (adsL (out ++ [x]))) := (by rw [adsL_snoc, List.length_append]; exact hown'); clear hown' hBw; have hBw := hBw'; clear hBw'; simp only [Act.put, List.setIfInBounds_toArray, List.set_cons_zero, List.set_cons_succ]))
            refine (HBE.out _).mono ?_
            rintro e w9 ⟨rfl, K⟩
            replace M := M.call K
            replace OWN := hid (own_kept OWN.out K)
            replace hBw := Nat.le_trans hBw K.size
            clear K HBE
            rw [DL.out]
            go_wp2_with (first
              | ((with_reducible apply W_load (n := 20) (o := i * 20)); rfl; exact M.kept.row hrg (by simp); exact Salg.underlying45; rfl; exact size45; exact hsz; rw [HEX.out]; simp only [Act.put, List.setIfInBounds_toArray, List.set_cons_zero, List.set_cons_succ])
              | ((with_reducible apply L_allocN (d := 8) M); exact zero45; clear M; intro c3 w5 hc3 hc3N K5 M; have HG3 : Hid (∀ g', Value.ownBlock lv = some g' → g' ≠ c3) := (fun g' hg' => by have := (own_block OWN.out hg').2; omega); replace OWN := hid (own_kept OWN.out K5); replace hBw := Nat.le_trans hBw K5.size; clear K5; simp only [Act.put, List.setIfInBounds_toArray, List.set_cons_zero, List.set_cons_succ])
              | ((with_reducible apply W_storeK (b := c3) (vs := (x.map n8).toArray)); rfl; rfl; exact M.r0; exact size45; (simp [hx20]); exact one8 _; intro w3 K hr3; replace OWN := hid (own_keptY OWN.out K (by intro g' hg'; simpa using HG3.out g' hg')); replace hBw := Nat.le_trans hBw K.size; replace M := Mem.callPut (L1 := []) M (Or.inr (by assumption)) K hr3; clear K hr3; simp only [List.cons_append, List.nil_append] at M)
              | ((with_reducible apply W_loadAllG (dst := 22)); rfl; rfl; exact M.r1; exact Salg.underlying45; rfl; (rw [size45]; simp [ha20]); simp only [Act.put, List.setIfInBounds_toArray, List.set_cons_zero, List.set_cons_succ])
              | ((with_reducible apply W_loadAllG (dst := 23)); rfl; rfl; exact M.r0; exact Salg.underlying45; rfl; (rw [size45]; simp [hx20]); simp only [Act.put, List.setIfInBounds_toArray, List.set_cons_zero, List.set_cons_succ])
              | ((with_reducible apply W_loadAll (dst := 31)); rfl; exact M.r0; exact Salg.underlying45; rfl; (rw [size45]; simp [hx20]); simp only [Act.put, List.setIfInBounds_toArray, List.set_cons_zero, List.set_cons_succ])
              | ((with_reducible apply W_buildOne (d := 32) M); rfl; exact Salg.underlying109; exact size45; exact zero45s; (simp [hx20]); decide; decide; clear M; intro bn w6 hbn hbnN K6 M; replace OWN := hid (own_kept OWN.out K6); replace hBw := Nat.le_trans hBw K6.size; clear K6; simp only [Act.put, List.setIfInBounds_toArray, List.set_cons_zero, List.set_cons_succ])
              | ((with_reducible apply W_appendOne (d := 33) (base := w2.heap.size) (n := (out).length) M.tail.tail info45 Salg.underlying109); kernel_rfl; decide; decide; rfl; rfl; exact OWN.out; (first | omega | (simp only [List.length_append, List.length_cons, List.length_nil]; omega)); exact M.r0; (simp [hx20]); exact one8 _; exact Nat.le_of_lt (Nat.lt_of_le_of_lt hc1 hc1B); exact hBw; exact (by intro p hp e; have hb := own_block OWN.out e; simp only [List.mem_cons, List.not_mem_nil, or_false] at hp; rcases hp with rfl; (have := hb.1; omega)); clear M; intro lv' w7 M hown' hBw'; replace OWN : Hid (w7.ownsRow w2.heap.size 45 20 lv' (out ++ [x]).length (adsL (out ++ [x]))) := (by rw [adsL_snoc, List.length_append]; exact hown'); clear hown' hBw; have hBw := hBw'; clear hBw'; simp only [Act.put, List.setIfInBounds_toArray, List.set_cons_zero, List.set_cons_succ]))
            go_roundw
            case rel => exact ⟨i + 1, false, out ++ [x], by omega, by go_num, rfl, by simp; omega, by simpa using HPU.out, (by intro p hp; simp only [List.mem_append, List.mem_singleton] at hp; rcases hp with hp | rfl; exact HOK.out p hp; exact HXO.out), OWN.out, hBw, M⟩
            case measure => simp [intOf]; omega
          · have DL : Hid (adLt a x = true) := hlt2
            simp only [hlt2, Bool.not_false, Bool.and_self, Bool.or_true, Bool.true_and, if_true] at HPU
            clear hlt2
            go_wp2_with (first
              | ((with_reducible apply W_load (n := 20) (o := i * 20)); rfl; exact M.kept.row hrg (by simp); exact Salg.underlying45; rfl; exact size45; exact hsz; rw [HEX.out]; simp only [Act.put, List.setIfInBounds_toArray, List.set_cons_zero, List.set_cons_succ])
              | ((with_reducible apply L_allocN (d := 8) M); exact zero45; clear M; intro c3 w5 hc3 hc3N K5 M; have HG3 : Hid (∀ g', Value.ownBlock lv = some g' → g' ≠ c3) := (fun g' hg' => by have := (own_block OWN.out hg').2; omega); replace OWN := hid (own_kept OWN.out K5); replace hBw := Nat.le_trans hBw K5.size; clear K5; simp only [Act.put, List.setIfInBounds_toArray, List.set_cons_zero, List.set_cons_succ])
              | ((with_reducible apply W_storeK (b := c3) (vs := (x.map n8).toArray)); rfl; rfl; exact M.r0; exact size45; (simp [hx20]); exact one8 _; intro w3 K hr3; replace OWN := hid (own_keptY OWN.out K (by intro g' hg'; simpa using HG3.out g' hg')); replace hBw := Nat.le_trans hBw K.size; replace M := Mem.callPut (L1 := []) M (Or.inr (by assumption)) K hr3; clear K hr3; simp only [List.cons_append, List.nil_append] at M)
              | ((with_reducible apply W_loadAllG (dst := 22)); rfl; rfl; exact M.r1; exact Salg.underlying45; rfl; (rw [size45]; simp [ha20]); simp only [Act.put, List.setIfInBounds_toArray, List.set_cons_zero, List.set_cons_succ])
              | ((with_reducible apply W_loadAllG (dst := 23)); rfl; rfl; exact M.r0; exact Salg.underlying45; rfl; (rw [size45]; simp [hx20]); simp only [Act.put, List.setIfInBounds_toArray, List.set_cons_zero, List.set_cons_succ])
              | ((with_reducible apply W_loadAll (dst := 27)); rfl; exact M.r1; exact Salg.underlying45; rfl; (rw [size45]; simp [ha20]); simp only [Act.put, List.setIfInBounds_toArray, List.set_cons_zero, List.set_cons_succ])
              | ((with_reducible apply W_buildOne (d := 28) M); rfl; exact Salg.underlying109; exact size45; exact zero45s; (simp [ha20]); decide; decide; clear M; intro bn w6 hbn hbnN K6 M; replace OWN := hid (own_kept OWN.out K6); replace hBw := Nat.le_trans hBw K6.size; clear K6; simp only [Act.put, List.setIfInBounds_toArray, List.set_cons_zero, List.set_cons_succ])
              | ((with_reducible apply W_appendOne (d := 29) (base := w2.heap.size) (n := (out).length) M.tail info45 Salg.underlying109); kernel_rfl; decide; decide; rfl; rfl; exact OWN.out; (first | omega | (simp only [List.length_append, List.length_cons, List.length_nil]; omega)); exact M.r0; (simp [ha20]); exact one8 _; exact Nat.le_of_lt (Nat.lt_of_le_of_lt hc1 hc1B); exact hBw; exact (by intro p hp e; have hb := own_block OWN.out e; simp only [List.mem_cons, List.not_mem_nil, or_false] at hp; rcases hp with rfl | rfl; exact HG3.out _ e rfl; (have := hb.1; omega)); clear M; intro lv' w7 M hown' hBw'; replace OWN : Hid (w7.ownsRow w2.heap.size 45 20 lv' (out ++ [a]).length (adsL (out ++ [a]))) := (by rw [adsL_snoc, List.length_append]; exact hown'); clear hown' hBw; have hBw := hBw'; clear hBw'; simp only [Act.put, List.setIfInBounds_toArray, List.set_cons_zero, List.set_cons_succ])
              | ((with_reducible apply W_loadAll (dst := 31)); rfl; exact M.r0; exact Salg.underlying45; rfl; (rw [size45]; simp [hx20]); simp only [Act.put, List.setIfInBounds_toArray, List.set_cons_zero, List.set_cons_succ])
              | ((with_reducible apply W_buildOne (d := 32) M); rfl; exact Salg.underlying109; exact size45; exact zero45s; (simp [hx20]); decide; decide; clear M; intro bn w6 hbn hbnN K6 M; replace OWN := hid (own_kept OWN.out K6); replace hBw := Nat.le_trans hBw K6.size; clear K6; simp only [Act.put, List.setIfInBounds_toArray, List.set_cons_zero, List.set_cons_succ])
              | ((with_reducible apply W_appendOne (d := 33) (base := w2.heap.size) (n := (out ++ [a]).length) M.tail.tail info45 Salg.underlying109); kernel_rfl; decide; decide; rfl; rfl; exact OWN.out; (first | omega | (simp only [List.length_append, List.length_cons, List.length_nil]; omega)); exact M.r0; (simp [hx20]); exact one8 _; exact Nat.le_of_lt (Nat.lt_of_le_of_lt hc1 hc1B); exact hBw; exact (by intro p hp e; have hb := own_block OWN.out e; simp only [List.mem_cons, List.not_mem_nil, or_false] at hp; rcases hp with rfl; (have := hb.1; omega)); clear M; intro lv' w7 M hown' hBw'; replace OWN : Hid (w7.ownsRow w2.heap.size 45 20 lv' (out ++ [a] ++ [x]).length (adsL (out ++ [a] ++ [x]))) := (by rw [adsL_snoc, List.length_append]; exact hown'); clear hown' hBw; have hBw := hBw'; clear hBw'; simp only [Act.put, List.setIfInBounds_toArray, List.set_cons_zero, List.set_cons_succ]))
            refine (HBE.out _).mono ?_
            rintro e w9 ⟨rfl, K⟩
            replace M := M.call K
            replace OWN := hid (own_kept OWN.out K)
            replace hBw := Nat.le_trans hBw K.size
            clear K HBE
            rw [DL.out]
            go_wp2_with (first
              | ((with_reducible apply W_load (n := 20) (o := i * 20)); rfl; exact M.kept.row hrg (by simp); exact Salg.underlying45; rfl; exact size45; exact hsz; rw [HEX.out]; simp only [Act.put, List.setIfInBounds_toArray, List.set_cons_zero, List.set_cons_succ])
              | ((with_reducible apply L_allocN (d := 8) M); exact zero45; clear M; intro c3 w5 hc3 hc3N K5 M; have HG3 : Hid (∀ g', Value.ownBlock lv = some g' → g' ≠ c3) := (fun g' hg' => by have := (own_block OWN.out hg').2; omega); replace OWN := hid (own_kept OWN.out K5); replace hBw := Nat.le_trans hBw K5.size; clear K5; simp only [Act.put, List.setIfInBounds_toArray, List.set_cons_zero, List.set_cons_succ])
              | ((with_reducible apply W_storeK (b := c3) (vs := (x.map n8).toArray)); rfl; rfl; exact M.r0; exact size45; (simp [hx20]); exact one8 _; intro w3 K hr3; replace OWN := hid (own_keptY OWN.out K (by intro g' hg'; simpa using HG3.out g' hg')); replace hBw := Nat.le_trans hBw K.size; replace M := Mem.callPut (L1 := []) M (Or.inr (by assumption)) K hr3; clear K hr3; simp only [List.cons_append, List.nil_append] at M)
              | ((with_reducible apply W_loadAllG (dst := 22)); rfl; rfl; exact M.r1; exact Salg.underlying45; rfl; (rw [size45]; simp [ha20]); simp only [Act.put, List.setIfInBounds_toArray, List.set_cons_zero, List.set_cons_succ])
              | ((with_reducible apply W_loadAllG (dst := 23)); rfl; rfl; exact M.r0; exact Salg.underlying45; rfl; (rw [size45]; simp [hx20]); simp only [Act.put, List.setIfInBounds_toArray, List.set_cons_zero, List.set_cons_succ])
              | ((with_reducible apply W_loadAll (dst := 27)); rfl; exact M.r1; exact Salg.underlying45; rfl; (rw [size45]; simp [ha20]); simp only [Act.put, List.setIfInBounds_toArray, List.set_cons_zero, List.set_cons_succ])
              | ((with_reducible apply W_buildOne (d := 28) M); rfl; exact Salg.underlying109; exact size45; exact zero45s; (simp [ha20]); decide; decide; clear M; intro bn w6 hbn hbnN K6 M; replace OWN := hid (own_kept OWN.out K6); replace hBw := Nat.le_trans hBw K6.size; clear K6; simp only [Act.put, List.setIfInBounds_toArray, List.set_cons_zero, List.set_cons_succ])
              | ((with_reducible apply W_appendOne (d := 29) (base := w2.heap.size) (n := (out).length) M.tail info45 Salg.underlying109); kernel_rfl; decide; decide; rfl; rfl; exact OWN.out; (first | omega | (simp only [List.length_append, List.length_cons, List.length_nil]; omega)); exact M.r0; (simp [ha20]); exact one8 _; exact Nat.le_of_lt (Nat.lt_of_le_of_lt hc1 hc1B); exact hBw; exact (by intro p hp e; have hb := own_block OWN.out e; simp only [List.mem_cons, List.not_mem_nil, or_false] at hp; rcases hp with rfl | rfl; exact HG3.out _ e rfl; (have := hb.1; omega)); clear M; intro lv' w7 M hown' hBw'; replace OWN : Hid (w7.ownsRow w2.heap.size 45 20 lv' (out ++ [a]).length (adsL (out ++ [a]))) := (by rw [adsL_snoc, List.length_append]; exact hown'); clear hown' hBw; have hBw := hBw'; clear hBw'; simp only [Act.put, List.setIfInBounds_toArray, List.set_cons_zero, List.set_cons_succ])
              | ((with_reducible apply W_loadAll (dst := 31)); rfl; exact M.r0; exact Salg.underlying45; rfl; (rw [size45]; simp [hx20]); simp only [Act.put, List.setIfInBounds_toArray, List.set_cons_zero, List.set_cons_succ])
              | ((with_reducible apply W_buildOne (d := 32) M); rfl; exact Salg.underlying109; exact size45; exact zero45s; (simp [hx20]); decide; decide; clear M; intro bn w6 hbn hbnN K6 M; replace OWN := hid (own_kept OWN.out K6); replace hBw := Nat.le_trans hBw K6.size; clear K6; simp only [Act.put, List.setIfInBounds_toArray, List.set_cons_zero, List.set_cons_succ])
              | ((with_reducible apply W_appendOne (d := 33) (base := w2.heap.size) (n := (out ++ [a]).length) M.tail.tail info45 Salg.underlying109); kernel_rfl; decide; decide; rfl; rfl; exact OWN.out; (first | omega | (simp only [List.length_append, List.length_cons, List.length_nil]; omega)); exact M.r0; (simp [hx20]); exact one8 _; exact Nat.le_of_lt (Nat.lt_of_le_of_lt hc1 hc1B); exact hBw; exact (by intro p hp e; have hb := own_block OWN.out e; simp only [List.mem_cons, List.not_mem_nil, or_false] at hp; rcases hp with rfl; (have := hb.1; omega)); clear M; intro lv' w7 M hown' hBw'; replace OWN : Hid (w7.ownsRow w2.heap.size 45 20 lv' (out ++ [a] ++ [x]).length (adsL (out ++ [a] ++ [x]))) := (by rw [adsL_snoc, List.length_append]; exact hown'); clear hown' hBw; have hBw := hBw'; clear hBw'; simp only [Act.put, List.setIfInBounds_toArray, List.set_cons_zero, List.set_cons_succ]))
            go_roundw
            case rel => exact ⟨i + 1, true, out ++ [a] ++ [x], by omega, by go_num, rfl, by simp; omega, by simpa using HPU.out, (by intro p hp; simp only [List.mem_append, List.mem_singleton] at hp; rcases hp with (hp | rfl) | rfl; exact HOK.out p hp; exact ha; exact HXO.out), OWN.out, hBw, M⟩
            case measure => simp [intOf]; omega
        · simp only [Bool.not_true, Bool.false_and, Bool.true_or, Bool.false_eq_true, if_false, List.nil_append] at HPU
          go_wp2_with (first
            | ((with_reducible apply W_load (n := 20) (o := i * 20)); rfl; exact M.kept.row hrg (by simp); exact Salg.underlying45; rfl; exact size45; exact hsz; rw [HEX.out]; simp only [Act.put, List.setIfInBounds_toArray, List.set_cons_zero, List.set_cons_succ])
            | ((with_reducible apply L_allocN (d := 8) M); exact zero45; clear M; intro c3 w5 hc3 hc3N K5 M; have HG3 : Hid (∀ g', Value.ownBlock lv = some g' → g' ≠ c3) := (fun g' hg' => by have := (own_block OWN.out hg').2; omega); replace OWN := hid (own_kept OWN.out K5); replace hBw := Nat.le_trans hBw K5.size; clear K5; simp only [Act.put, List.setIfInBounds_toArray, List.set_cons_zero, List.set_cons_succ])
            | ((with_reducible apply W_storeK (b := c3) (vs := (x.map n8).toArray)); rfl; rfl; exact M.r0; exact size45; (simp [hx20]); exact one8 _; intro w3 K hr3; replace OWN := hid (own_keptY OWN.out K (by intro g' hg'; simpa using HG3.out g' hg')); replace hBw := Nat.le_trans hBw K.size; replace M := Mem.callPut (L1 := []) M (Or.inr (by assumption)) K hr3; clear K hr3; simp only [List.cons_append, List.nil_append] at M)
            | ((with_reducible apply W_loadAllG (dst := 22)); rfl; rfl; exact M.r1; exact Salg.underlying45; rfl; (rw [size45]; simp [ha20]); simp only [Act.put, List.setIfInBounds_toArray, List.set_cons_zero, List.set_cons_succ])
            | ((with_reducible apply W_loadAllG (dst := 23)); rfl; rfl; exact M.r0; exact Salg.underlying45; rfl; (rw [size45]; simp [hx20]); simp only [Act.put, List.setIfInBounds_toArray, List.set_cons_zero, List.set_cons_succ])
            | ((with_reducible apply W_loadAll (dst := 31)); rfl; exact M.r0; exact Salg.underlying45; rfl; (rw [size45]; simp [hx20]); simp only [Act.put, List.setIfInBounds_toArray, List.set_cons_zero, List.set_cons_succ])
            | ((with_reducible apply W_buildOne (d := 32) M); rfl; exact Salg.underlying109; exact size45; exact zero45s; (simp [hx20]); decide; decide; clear M; intro bn w6 hbn hbnN K6 M; replace OWN := hid (own_kept OWN.out K6); replace hBw := Nat.le_trans hBw K6.size; clear K6; simp only [Act.put, List.setIfInBounds_toArray, List.set_cons_zero, List.set_cons_succ])
            | ((with_reducible apply W_appendOne (d := 33) (base := w2.heap.size) (n := (out).length) M.tail.tail info45 Salg.underlying109); kernel_rfl; decide; decide; rfl; rfl; exact OWN.out; (first | omega | (simp only [List.length_append, List.length_cons, List.length_nil]; omega)); exact M.r0; (simp [hx20]); exact one8 _; exact Nat.le_of_lt (Nat.lt_of_le_of_lt hc1 hc1B); exact hBw; exact (by intro p hp e; have hb := own_block OWN.out e; simp only [List.mem_cons, List.not_mem_nil, or_false] at hp; rcases hp with rfl; (have := hb.1; omega)); clear M; intro lv' w7 M hown' hBw'; replace OWN : Hid (w7.ownsRow w2.heap.size 45 20 lv' (out ++ [x]).length (adsL (out ++ [x]))) := (by rw [adsL_snoc, List.length_append]; exact hown'); clear hown' hBw; have hBw := hBw'; clear hBw'; simp only [Act.put, List.setIfInBounds_toArray, List.set_cons_zero, List.set_cons_succ]))
          go_roundw
          case rel => exact ⟨i + 1, true, out ++ [x], by omega, by go_num, rfl, by simp; omega, by simpa using HPU.out, (by intro p hp; simp only [List.mem_append, List.mem_singleton] at hp; rcases hp with hp | rfl; exact HOK.out p hp; exact HXO.out), OWN.out, hBw, M⟩
          case measure => simp [intOf]; omega
      · have hin : i = n := by omega
        subst hin
        have HDN : Hid (l.drop i = []) := List.drop_of_length_le (by rw [HN.out]; exact Nat.le_refl _)
        rw [HDN.out, adPut] at HPU
        cases t
        · simp only [Bool.false_eq_true, if_false] at HPU
          go_wp2_with (first
            | ((with_reducible apply W_loadAll (dst := 38)); rfl; exact M.r0; exact Salg.underlying45; rfl; (rw [size45]; simp [ha20]); simp only [Act.put, List.setIfInBounds_toArray, List.set_cons_zero, List.set_cons_succ])
            | ((with_reducible apply W_buildOne (d := 39) M); rfl; exact Salg.underlying109; exact size45; exact zero45s; (simp [ha20]); decide; decide; clear M; intro bn w6 hbn hbnN K6 M; replace OWN := hid (own_kept OWN.out K6); replace hBw := Nat.le_trans hBw K6.size; clear K6; simp only [Act.put, List.setIfInBounds_toArray, List.set_cons_zero, List.set_cons_succ])
            | ((with_reducible apply W_appendOne (d := 40) (base := w2.heap.size) (n := (out).length) M.tail info45 Salg.underlying109); kernel_rfl; decide; decide; rfl; rfl; exact OWN.out; (first | omega | (simp only [List.length_append, List.length_cons, List.length_nil]; omega)); exact M.r0; (simp [ha20]); exact one8 _; exact Nat.le_of_lt (Nat.lt_of_le_of_lt hc1 hc1B); exact hBw; exact (by intro p hp e; have hb := own_block OWN.out e; simp only [List.mem_cons, List.not_mem_nil, or_false] at hp; rcases hp with rfl; (have := hb.1; omega)); clear M; intro lv' w7 M hown' hBw'; replace OWN : Hid (w7.ownsRow w2.heap.size 45 20 lv' (out ++ [a]).length (adsL (out ++ [a]))) := (by rw [adsL_snoc, List.length_append]; exact hown'); clear hown' hBw; have hBw := hBw'; clear hBw'; simp only [Act.put, List.setIfInBounds_toArray, List.set_cons_zero, List.set_cons_succ]))
          go_ret
          exact ⟨_, rfl, ⟨by rw [← HPU.out]; exact own_mono OWN.out (Nat.zero_le _), adPut_ok ha false l HV.out.ok, by rw [← HPU.out]; simp; omega⟩, M.kept⟩
        · simp only [if_true, List.append_nil] at HPU
          go_wp2_with fail
          go_ret
          exact ⟨_, rfl, ⟨by rw [← HPU.out]; exact own_mono OWN.out (Nat.zero_le _), adPut_ok ha false l HV.out.ok, by rw [← HPU.out]; omega⟩, M.kept⟩
end Go.Proofs.YgcsalGreat

/-
  The walks of (*yp.Acct).empty and (*yp.World).put at an account with nothing.
-/
import Derived.Test.YgcsalGreatMv10
import Derived.Test.YgcsalGreatYp6
set_option linter.unusedSimpArgs false
set_option linter.unusedVariables false
namespace Go.Proofs.YgcsalGreat
open Go.RowKit Go.Own

set_option maxHeartbeats 4000000 in
set_option maxRecDepth 100000 in
theorem empty_yes (c : Nat) (q : Ac) (nv bv : Value) (w : World) (hr : w.heap[c]? = some (.cells q.cells.toArray 128 (0, 0))) (hq : q.Ok) (hrest : q.rest = [nv, bv, nilS, nilS]) (hN : NumV w nv 0) (hB : NumV w bv 0) :
    Calls Salg.prog 127 #[.pointer (some ⟨c, 0, none⟩)] w fun e w' => e = .returned (.bool true) ∧ Kept [] w w' := by
  have M := Mem.start w []
  have hc : ∀ k v, q.rest[k]? = some v → q.cells.toArray[20 + k]? = some v := by
    intro k v hk
    simp only [Ac.cells, List.getElem?_toArray]
    rw [List.getElem?_append_right (by simp [hq.ha])]
    simpa [hq.ha] using hk
  have h0 : q.cells.toArray[20]? = some nv := hc 0 _ (by rw [hrest]; rfl)
  have h1 : q.cells.toArray[21]? = some bv := hc 1 _ (by rw [hrest]; rfl)
  have h2 : q.cells.toArray[22]? = some nilS := hc 2 _ (by rw [hrest]; rfl)
  have HN := hid hN
  have HB := hid hB
  clear hN hB hc hrest
  go_enter Salg.func127, Salg.ntmps127
  go_wp2_with ((with_reducible apply W_loadCell); rfl; exact hr; exact h0; exact Salg.underlying89; rfl; simp only [Act.put, List.setIfInBounds_toArray, List.set_cons_zero, List.set_cons_succ])
  refine (isZero_any nv 0 _ HN.out).mono ?_
  rintro e w2 ⟨rfl, K⟩
  replace M := M.call K
  clear K
  go_wp2_with ((with_reducible apply W_loadCellG); rfl; rfl; exact M.kept.row hr (by simp); exact h1; exact Salg.underlying89; rfl; simp only [Act.put, List.setIfInBounds_toArray, List.set_cons_zero, List.set_cons_succ])
  refine (isZero_any bv 0 _ (HB.out.kept M.kept)).mono ?_
  rintro e w3 ⟨rfl, K⟩
  replace M := M.call K
  clear K
  go_wp2_with ((with_reducible apply W_loadCellG); rfl; rfl; exact M.kept.row hr (by simp); exact h2; exact Salg.underlying40; rfl; simp only [Act.put, List.setIfInBounds_toArray, List.set_cons_zero, List.set_cons_succ])
  go_ret
  exact ⟨rfl, M.kept⟩

set_option maxHeartbeats 4000000 in
set_option maxRecDepth 100000 in
theorem put_empty (c tc : Nat) (cs : Array Value) (va nv bv : Value) (l : List Ac) (q : Ac) (w : World) (hr : w.heap[c]? = some (.cells cs tc (0, 0))) (h0 : cs[0]? = some va) (hv : AcsV w va l) (hq : q.Ok) (hrest : q.rest = [nv, bv, nilS, nilS]) (hN : NumV w nv 0) (hB : NumV w bv 0) (hll : l.length ≤ 400) (htc : tc ≠ 128) :
    Calls Salg.prog 166 #[.pointer (some ⟨c, 0, none⟩), .agg q.cells.toArray] w fun e w' => ∃ r v', e = .returned r ∧ Kept [c] w w' ∧ w'.heap[c]? = some (.cells (cs.setIfInBounds 0 v') tc (0, 0)) ∧ AcsV w' v' (acPut q true l) := by
  have M : Mem w [c] [(c, .cells cs tc (0, 0))] w := (Mem.start w [c]).add hr (by simp)
  have hcl := hq.len
  have HQ := hid hq
  have HV := hid hv
  have HNV := hid hN
  have HBV := hid hB
  have hc4 : q.cells.toArray[23]? = some nilS := by
    simp only [Ac.cells, List.getElem?_toArray]
    rw [List.getElem?_append_right (by simp [hq.ha]), hrest]
    simp [hq.ha]
  clear hv hN hB hq
  obtain ⟨p, n, cap, rfl, hn'⟩ : ∃ p n cap, va = .slice p n cap ∧ n = l.length := by
    rcases HV.out.own.2 with ⟨h1, h2⟩ | ⟨g, cap, cur, h1, _⟩
    · exact ⟨none, 0, 0, h1, h2.symm⟩
    · exact ⟨_, _, _, h1, rfl⟩
  have hro : ∀ t l, Obj.cells cs tc (0, 0) ≠ R8 t l := by
    intro t l' e
    cases e
    simp at h0
  have HN := hid hn'
  have hn1 : n ≤ 400 := by omega
  clear hn' hll
  go_enter Salg.func166, Salg.ntmps166
  go_wp2_with ((with_reducible apply L_box (d := 3) M); rfl; clear M; intro c1 w1 hc1 M; simp only [Act.put, List.setIfInBounds_toArray, List.set_cons_zero, List.set_cons_succ])
  have HC := hid (empty_yes c1 q nv bv w1 M.r0 HQ.out hrest (HNV.out.kept0 M hr hro) (HBV.out.kept0 M hr hro))
  refine HC.out.mono ?_
  rintro e w2 ⟨rfl, K⟩
  replace M := M.call K
  clear K HC HNV HBV
  go_wp2_with (first
    | ((with_reducible apply W_loadCellG); rfl; rfl; exact M.r0; exact hc4; exact Salg.underlying126; rfl; simp only [Act.put, List.setIfInBounds_toArray, List.set_cons_zero, List.set_cons_succ])
    | ((with_reducible apply W_loadCell); rfl; exact M.r1; exact h0; exact Salg.underlying108; rfl; simp only [Act.put, List.setIfInBounds_toArray, List.set_cons_zero, List.set_cons_succ]))
  have hcB : c < w2.heap.size := lt_of_row M.r1
  have hc1B : c1 < w2.heap.size := lt_of_row M.r0
  go_loopw [4, 5, 20] (fun lv tv iv wr => ∃ (i : Nat) (out : List Ac), i ≤ n ∧ iv = .int .i64 i ∧ tv = .bool true ∧ out.length ≤ 2 * i ∧ out ++ acPut q true (l.drop i) = acPut q true l ∧ (∀ p ∈ out, p.Ok) ∧ wr.ownsRow w2.heap.size 128 24 lv out.length (acsL out) ∧ w2.heap.size ≤ wr.heap.size ∧ Mem w [c] [(c1, .cells q.cells.toArray 128 (0, 0)), (c, .cells cs tc (0, 0))] wr) (fun _ _ iv _ => (n - intOf iv).toNat)
  case atStart => exact ⟨0, [], by omega, rfl, rfl, by simp, by simp, by simp, own_nil _ _ _ _, Nat.le_refl _, M⟩
  case round =>
    clear M
    obtain ⟨i, out, hi, rfl, rfl, hol, hpu, hok, hown, hBw, M⟩ := hrel
    have HPU := hid hpu
    have HOK := hid hok
    have OWN := hid hown
    clear hpu hok hown
    rcases Nat.lt_or_ge i n with hlt | hge
    · have hil : i < l.length := by rw [← HN.out]; exact hlt
      obtain ⟨g, cap', cur, hpe, hrg, hsz, hex⟩ := HV.out.at hil
      cases hpe
      have hgc : g ≠ c := by rintro rfl; rw [hr] at hrg; cases hrg; exact htc rfl
      have hxo := HV.out.ok l[i] (List.getElem_mem hil)
      have HXO := hid hxo
      have hxl := hxo.len
      have HEX := hid hex
      have HXA := hid (cells_addr hxo)
      have HQA := hid (cells_addr HQ.out)
      have HBE := hid (fun w => before_any l[i].adr q.adr w hxo.ha HQ.out.ha hxo.hs HQ.out.hs)
      have HDR : Hid (l.drop i = l[i] :: l.drop (i + 1)) := List.drop_eq_getElem_cons hil
      rw [HDR.out, acPut] at HPU
      clear hxo hex HDR
      generalize l[i] = x at *
      generalize hlv : u4 = lv at *
      simp only [Bool.not_true, Bool.false_and, Bool.true_or, Bool.false_eq_true, if_false, List.nil_append] at HPU
      by_cases hxq : x.adr = q.adr
      · have DE : Hid (decide (x.adr = q.adr) = true) := decide_eq_true hxq
        simp only [hxq, if_true, if_false, List.nil_append] at HPU
        clear hxq
        go_wp2_with (first
          | ((with_reducible apply W_load (n := 24) (o := i * 24)); rfl; exact M.kept.row hrg (by simpa using hgc); exact Salg.underlying128; rfl; exact size128; exact hsz; rw [HEX.out]; simp only [Act.put, List.setIfInBounds_toArray, List.set_cons_zero, List.set_cons_succ])
          | ((with_reducible apply L_allocN (d := 7) M); exact zero128; clear M; intro c3 w5 hc3 hc3N K5 M; have HG3 : Hid (∀ g', Value.ownBlock lv = some g' → g' ≠ c3) := (fun g' hg' => by have := (own_block OWN.out hg').2; omega); replace OWN := hid (own_kept OWN.out K5); replace hBw := Nat.le_trans hBw K5.size; clear K5; simp only [Act.put, List.setIfInBounds_toArray, List.set_cons_zero, List.set_cons_succ])
          | ((with_reducible apply W_storeK (b := c3) (vs := x.cells.toArray)); rfl; rfl; exact M.r0; exact size128; (simp [hxl, z8]); (simpa using HXO.out.one); intro w3 K hr3; replace OWN := hid (own_keptX OWN.out K (by intro g' hg'; simpa using HG3.out g' hg')); replace hBw := Nat.le_trans hBw K.size; replace M := Mem.callPut (L1 := []) M (Or.inr (by assumption)) K hr3; clear K hr3; simp only [List.cons_append, List.nil_append] at M)
          | ((with_reducible apply W_load (n := 20) (o := 0)); rfl; exact M.r0; exact Salg.underlying45; rfl; exact size45; (simp [hxl]); rw [HXA.out]; simp only [Act.put, List.setIfInBounds_toArray, List.set_cons_zero, List.set_cons_succ])
          | ((with_reducible apply W_load (n := 20) (o := 0)); rfl; exact M.r1; exact Salg.underlying45; rfl; exact size45; (simp [hcl]); rw [HQA.out]; simp only [Act.put, List.setIfInBounds_toArray, List.set_cons_zero, List.set_cons_succ])
          | ((with_reducible apply L_runG); rfl; exact Go.Own.run_load (n := 20) (o := 0) M.r0 rfl Salg.underlying45 rfl size45 (by simp [hxl]); rw [HXA.out]; simp only [Act.put, List.setIfInBounds_toArray, List.set_cons_zero, List.set_cons_succ])
          | ((with_reducible apply L_runG); rfl; exact Go.Own.run_load (n := 20) (o := 0) M.r1 rfl Salg.underlying45 rfl size45 (by simp [hcl]); rw [HQA.out]; simp only [Act.put, List.setIfInBounds_toArray, List.set_cons_zero, List.set_cons_succ])
          | ((with_reducible apply W_neq8); rfl; rfl; exact Salg.underlying45; exact Salg.underlying5; exact size5; exact guard45; exact HXO.out.ha; exact HQ.out.ha; simp only [DE.out]; simp only [Act.put, List.setIfInBounds_toArray, List.set_cons_zero, List.set_cons_succ]))
        replace M := M.tail
        go_roundw
        case rel => exact ⟨i + 1, out, by omega, by go_num, rfl, by first | omega | (simp; omega), by simpa using HPU.out, HOK.out, OWN.out, hBw, M⟩
        case measure => simp [intOf]; omega
      · have DE : Hid (decide (x.adr = q.adr) = false) := decide_eq_false hxq
        simp only [hxq, if_true, if_false, List.nil_append] at HPU
        clear hxq
        go_wp2_with (first
          | ((with_reducible apply W_load (n := 24) (o := i * 24)); rfl; exact M.kept.row hrg (by simpa using hgc); exact Salg.underlying128; rfl; exact size128; exact hsz; rw [HEX.out]; simp only [Act.put, List.setIfInBounds_toArray, List.set_cons_zero, List.set_cons_succ])
          | ((with_reducible apply L_allocN (d := 7) M); exact zero128; clear M; intro c3 w5 hc3 hc3N K5 M; have HG3 : Hid (∀ g', Value.ownBlock lv = some g' → g' ≠ c3) := (fun g' hg' => by have := (own_block OWN.out hg').2; omega); replace OWN := hid (own_kept OWN.out K5); replace hBw := Nat.le_trans hBw K5.size; clear K5; simp only [Act.put, List.setIfInBounds_toArray, List.set_cons_zero, List.set_cons_succ])
          | ((with_reducible apply W_storeK (b := c3) (vs := x.cells.toArray)); rfl; rfl; exact M.r0; exact size128; (simp [hxl, z8]); (simpa using HXO.out.one); intro w3 K hr3; replace OWN := hid (own_keptX OWN.out K (by intro g' hg'; simpa using HG3.out g' hg')); replace hBw := Nat.le_trans hBw K.size; replace M := Mem.callPut (L1 := []) M (Or.inr (by assumption)) K hr3; clear K hr3; simp only [List.cons_append, List.nil_append] at M)
          | ((with_reducible apply W_load (n := 20) (o := 0)); rfl; exact M.r0; exact Salg.underlying45; rfl; exact size45; (simp [hxl]); rw [HXA.out]; simp only [Act.put, List.setIfInBounds_toArray, List.set_cons_zero, List.set_cons_succ])
          | ((with_reducible apply W_load (n := 20) (o := 0)); rfl; exact M.r1; exact Salg.underlying45; rfl; exact size45; (simp [hcl]); rw [HQA.out]; simp only [Act.put, List.setIfInBounds_toArray, List.set_cons_zero, List.set_cons_succ])
          | ((with_reducible apply L_runG); rfl; exact Go.Own.run_load (n := 20) (o := 0) M.r0 rfl Salg.underlying45 rfl size45 (by simp [hxl]); rw [HXA.out]; simp only [Act.put, List.setIfInBounds_toArray, List.set_cons_zero, List.set_cons_succ])
          | ((with_reducible apply L_runG); rfl; exact Go.Own.run_load (n := 20) (o := 0) M.r1 rfl Salg.underlying45 rfl size45 (by simp [hcl]); rw [HQA.out]; simp only [Act.put, List.setIfInBounds_toArray, List.set_cons_zero, List.set_cons_succ])
          | ((with_reducible apply W_neq8); rfl; rfl; exact Salg.underlying45; exact Salg.underlying5; exact size5; exact guard45; exact HXO.out.ha; exact HQ.out.ha; simp only [DE.out]; simp only [Act.put, List.setIfInBounds_toArray, List.set_cons_zero, List.set_cons_succ])
          | ((with_reducible apply W_loadAll (dst := 44)); rfl; exact M.r0; exact Salg.underlying128; rfl; (rw [size128]; simp [hxl]); simp only [Act.put, List.setIfInBounds_toArray, List.set_cons_zero, List.set_cons_succ])
          | ((with_reducible apply W_buildOne (d := 45) M); rfl; exact Salg.underlying108; exact size128; exact zero128s; (simp [hxl]); decide; decide; clear M; intro bn w6 hbn hbnN K6 M; replace OWN := hid (own_kept OWN.out K6); replace hBw := Nat.le_trans hBw K6.size; clear K6; simp only [Act.put, List.setIfInBounds_toArray, List.set_cons_zero, List.set_cons_succ])
          | ((with_reducible apply W_appendOne (d := 46) (base := w2.heap.size) (n := (out).length) M.tail.tail info128 Salg.underlying108); kernel_rfl; decide; decide; rfl; rfl; exact OWN.out; (first | omega | (simp only [List.length_append, List.length_cons, List.length_nil]; omega)); exact M.r0; (simp [hxl]); (simpa using HXO.out.one); exact Nat.le_of_lt (Nat.lt_of_le_of_lt hc1 hc1B); exact hBw; exact (by intro p hp e; have hb := own_block OWN.out e; simp only [List.mem_cons, List.not_mem_nil, or_false] at hp; rcases hp with rfl | rfl; (have := hb.1; omega); (have := hb.1; omega)); clear M; intro lv' w7 M hown' hBw'; replace OWN : Hid (w7.ownsRow w2.heap.size 128 24 lv' (out ++ [x]).length (acsL (out ++ [x]))) := (by rw [acsL_snoc, List.length_append]; exact hown'); clear hown' hBw; have hBw := hBw'; clear hBw'; simp only [Act.put, List.setIfInBounds_toArray, List.set_cons_zero, List.set_cons_succ]))
        go_roundw
        case rel => exact ⟨i + 1, out ++ [x], by omega, by go_num, rfl, by first | omega | (simp; omega), by simpa using HPU.out, (by intro p hp; simp only [List.mem_append, List.mem_singleton] at hp; rcases hp with hp | rfl; exact HOK.out p hp; exact HXO.out), OWN.out, hBw, M⟩
        case measure => simp [intOf]; omega
    · have hin : i = n := by omega
      subst hin
      have h0s : 0 < cs.size := by
        rcases Nat.lt_or_ge 0 cs.size with h | h
        · exact h
        · rw [Array.getElem?_eq_none h] at h0; cases h0
      have HDN : Hid (l.drop i = []) := List.drop_of_length_le (by rw [HN.out]; exact Nat.le_refl _)
      rw [HDN.out, acPut] at HPU
      generalize hlv : u4 = lv at *
      simp only [if_true, List.append_nil] at HPU
      go_wp2_with ((with_reducible apply W_stV (b := c) (o := 0)); rfl; rfl; (rcases OWN.out.2 with ⟨rfl, _⟩ | ⟨g', c', cur', rfl, _⟩ <;> rfl); exact M.r1; exact size108; exact h0s; intro w8 K hr8)
      go_end0
      refine ⟨_, lv, rfl, (M.kept.trans (K.mono (by simp))), hr8, ?_⟩
      have hb := fun g hg => (own_block OWN.out (g := g) hg).1
      have OW2 := own_keptX OWN.out K (by intro g hg; have := hb g hg; simp; omega)
      exact ⟨by rw [← HPU.out]; exact own_mono OW2 (Nat.zero_le _), acPut_ok HQ.out true l HV.out.ok, by rw [← HPU.out]; omega⟩

set_option maxHeartbeats 2000000 in
set_option maxRecDepth 100000 in
theorem setBalance_empty (c tc : Nat) (cs : Array Value) (va nn : Value) (N : Nat) (l : List Ac) (a : List Nat) (w : World) (hr : w.heap[c]? = some (.cells cs tc (0, 0))) (h0 : cs[0]? = some va) (hv : AcsV w va l) (ha : a.length = 20) (hsa : Small a) (hN : NumV w nn N) (hN0 : N = 0) (hmiss : acFind l a = ⟨a, [nilS, nilS, nilS, nilS]⟩) (hll : l.length ≤ 400) (htc : tc ≠ 128) :
    Calls Salg.prog 92 #[.pointer (some ⟨c, 0, none⟩), A8 a, nn] w fun e w' => ∃ r v', e = .returned r ∧ Kept [c] w w' ∧ w'.heap[c]? = some (.cells (cs.setIfInBounds 0 v') tc (0, 0)) ∧ AcsV w' v' (acPut ((acFind l a).put 1 nn) true l) := by
  have M := Mem.start w []
  have hq := acFind_ok hv.ok ha hsa
  have HQ := hid hq
  have hql := hq.len
  have HP := hid (hq.put 1 hN.one)
  have hpl := HP.out.len
  have HPC : Hid ((acFind l a).cells.toArray.setIfInBounds 21 nn = ((acFind l a).put 1 nn).cells.toArray) := put_cells hq (k := 1) (by decide) nn
  have HAC := hid (fun w' (K : Kept [] w w') => account_any c tc cs va l a w' (K.row hr (by simp)) h0 (hv.kept K) ha)
  have HPUT := hid (fun w' (K : Kept [] w w') => put_empty c tc cs va nilS nn l ((acFind l a).put 1 nn) w' (K.row hr (by simp)) h0 (hv.kept K) HP.out (by rw [hmiss]; rfl) (nil_num _) (hN0 ▸ (hN.kept K)) hll htc)
  have h1 := hN.one
  clear hq hv hN hmiss
  generalize hF : acFind l a = F at *
  clear hF
  generalize F.put 1 nn = G at *
  go_enter Salg.func92, Salg.ntmps92
  go_wp2_with (first
    | ((with_reducible apply L_box (d := 4) M); rfl; clear M; intro c1 w1 hc1 M; simp only [Act.put, List.setIfInBounds_toArray, List.set_cons_zero, List.set_cons_succ])
    | ((with_reducible apply W_loadAll); rfl; (first | with_reducible exact M.r0 | with_reducible exact M.r1 | with_reducible exact M.r2 | with_reducible exact M.r3 | with_reducible exact M.r4 | with_reducible exact M.r5 | with_reducible exact M.r6 | assumption | exact M.kept.row (by assumption) (by simp)); exact Salg.underlying45; rfl; (first | with_reducible exact size45 | (rw [size45]; simp [ha])); simp only [Act.put, List.setIfInBounds_toArray, List.set_cons_zero, List.set_cons_succ]))
  refine (HAC.out _ M.kept).mono ?_
  rintro e w2 ⟨rfl, K⟩
  replace M := M.call K
  clear K HAC
  go_wp2_with (first
    | ((with_reducible apply L_allocA (d := 6) M); exact zero128; clear M; intro c2 w1 hc2 M; simp only [Act.put, List.setIfInBounds_toArray, List.set_cons_zero, List.set_cons_succ])
    | ((with_reducible apply W_storeK (b := c2) (vs := F.cells.toArray)); rfl; rfl; exact M.r0; exact size128; (simp [hql, z8]); (simpa using HQ.out.one); intro w3 K hr3; replace M := Mem.callPut (L1 := []) M (Or.inr (by assumption)) K hr3; clear K hr3; simp only [List.cons_append, List.nil_append] at M)
    | ((with_reducible apply W_stV (b := c2) (o := 21) (v := nn)); rfl; rfl; exact h1; exact M.r0; exact size89; (simp [hql]); intro w4 K hr4; rw [HPC.out] at hr4; replace M := Mem.callPut (L1 := []) M (Or.inr (by assumption)) K hr4; clear K hr4; simp only [List.cons_append, List.nil_append] at M)
    | ((with_reducible apply W_loadAll); rfl; exact M.r0; exact Salg.underlying128; rfl; (rw [size128]; simp [hpl]); simp only [Act.put, List.setIfInBounds_toArray, List.set_cons_zero, List.set_cons_succ]))
  refine (HPUT.out _ M.kept).mono ?_
  rintro e w5 ⟨r, v', rfl, K, hr5, hav⟩
  go_wp2_with fail
  go_end0
  exact ⟨_, v', rfl, (M.kept.mono (by simp)).trans K, hr5, hav⟩
end Go.Proofs.YgcsalGreat

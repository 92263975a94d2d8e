/-
  The walk of (*yp.World).put of an account with a nonce.
-/
import Derived.Test.YgcsalGreatMv6
set_option linter.unusedSimpArgs false
set_option linter.unusedVariables false
namespace Go.Own
/-- The account laid in its place. -/
def acPut (q : Ac) : Bool → List Ac → List Ac
  | t, [] => if t then [] else [q]
  | t, x :: l => (if !t && !adLt x.adr q.adr then [q] else []) ++ (if x.adr = q.adr then [] else [x]) ++ acPut q (t || !adLt x.adr q.adr) l
theorem acsL_snoc (l : List Ac) (q : Ac) : acsL (l ++ [q]) = acsL l ++ q.cells := by simp [acsL]
theorem acPut_ok {q : Ac} (hq : q.Ok) : ∀ t l, (∀ p ∈ l, p.Ok) → ∀ p ∈ acPut q t l, p.Ok
  | t, [], _, p, hp => by
    simp only [acPut] at hp
    split at hp
    · simp at hp
    · simp at hp; subst hp; exact hq
  | t, x :: l, h, p, hp => by
    simp only [acPut, List.mem_append] at hp
    rcases hp with (hp | hp) | hp
    · split at hp
      · simp at hp; subst hp; exact hq
      · simp at hp
    · split at hp
      · simp at hp
      · simp at hp; subst hp; exact h _ (by simp)
    · exact acPut_ok hq _ l (fun r hr => h r (by simp [hr])) p hp
theorem NumV.kept0 {w0 w : World} {v : Value} {n c : Nat} {L : List (Nat × Obj)} {o : Obj} (h : NumV w0 v n) (M : Mem w0 [c] L w) (hc : w0.heap[c]? = some o) (ho : ∀ t l, o ≠ R8 t l) : NumV w v n := by
  obtain ⟨ds, ⟨p, cp, h1, h2, h3, h4, h5⟩, h6, h7⟩ := h
  refine ⟨ds, ⟨p, cp, h1, h2, h3, ?_, h5⟩, h6, h7⟩
  rcases h4 with h4 | ⟨b, t, cs, e1, e2, e3⟩
  · exact .inl h4
  · refine .inr ⟨b, t, cs, e1, M.kept.row e2 ?_, e3⟩
    intro hb
    simp at hb
    subst hb
    rw [hc] at e2
    cases e2
    exact ho _ _ rfl
end Go.Own
namespace Go.Own
theorem own_keptX {w w' : World} {base : Nat} {e : TypeId} {s n : Nat} {v : Value} {xs : List Value} {X : List Nat} (h : w.ownsRow base e s v n xs) (k : Kept X w w') (hx : ∀ g, v.ownBlock = some g → g ∉ X) : w'.ownsRow base e s v n xs := by
  refine ⟨h.1, ?_⟩
  rcases h.2 with h1 | ⟨g, cap, cur, h1, h2, h3, h4⟩
  · exact .inl h1
  · exact .inr ⟨g, cap, cur, h1, h2, k.row h3 (hx g (by rw [h1]; rfl)), h4⟩
section
variable {P : Program} {ops : Array Oper} {Q : Exit → Act → World → Prop} {rest : List Oper} {a : Act} {w : World}
theorem W_stV {b o : Nat} {cs : Array Value} {v : Value} {t : TypeId} {x y : Operand} {ty ty' : TypeId} {pos : String} {after : Array Edge}
    (hx : a.eval x = .pointer (some ⟨b, o, none⟩)) (hy : a.eval y = v) (h1 : v.oneCell' = true) (hr : w.heap[b]? = some (.cells cs t (0, 0)))
    (hi : (P.info? ty).map (·.size) = some 1) (hle : o < cs.size) (k : ∀ w', Kept [b] w w' → w'.heap[b]? = some (.cells (cs.setIfInBounds o v) t (0, 0)) → wpList P ops Q rest a w') :
    wpList P ops Q ({ dst := none, op := .store ty x y, type := ty', pos := pos, after := after, guard := none } :: rest) a w := by
  obtain ⟨g1, g2⟩ := kept_put (lt_of_row hr) (.cells (cs.setIfInBounds o v) t (0, 0)) hr
  have hrun := run_storeCell (dst := none) (ty' := ty') (pos := pos) (after := after) (g := none) hr hx hy h1 hi hle
  exact wpList_plain rfl fun K hK => by unfold Oper.wp; rw [hrun]; exact hK _ _ (k _ g1 g2)
end
end Go.Own
namespace Go.Proofs.YgcsalGreat
open Go.RowKit Go.Own
theorem size108 : (Salg.prog.info? 108).map (·.size) = some 1 := by kernel_rfl
theorem zero128s : ((Salg.prog.info? 128).bind (·.zero)).isSome = true := by kernel_rfl

set_option maxHeartbeats 4000000 in
set_option maxRecDepth 100000 in
theorem put_any (c tc : Nat) (cs : Array Value) (va nv : Value) (N : Nat) (l : List Ac) (q : Ac) (w : World) (hr : w.heap[c]? = some (.cells cs tc (0, 0))) (h0 : cs[0]? = some va) (hv : AcsV w va l) (hq : q.Ok) (hn : q.rest[0]? = some nv) (hN : NumV w nv N) (hN0 : N ≠ 0) (hll : l.length ≤ 400) (htc : tc ≠ 128) :
    Calls Salg.prog 166 #[.pointer (some ⟨c, 0, none⟩), .agg q.cells.toArray] w fun e w' => ∃ r v', e = .returned r ∧ Kept [c] w w' ∧ w'.heap[c]? = some (.cells (cs.setIfInBounds 0 v') tc (0, 0)) ∧ AcsV w' v' (acPut q false l) := by
  have M : Mem w [c] [(c, .cells cs tc (0, 0))] w := (Mem.start w [c]).add hr (by simp)
  have hcl := hq.len
  have HQ := hid hq
  have HV := hid hv
  have HNV := hid hN
  clear hv hN hq
  obtain ⟨p, n, cap, rfl, hn'⟩ : ∃ p n cap, va = .slice p n cap ∧ n = l.length := by
    rcases HV.out.own.2 with ⟨h1, h2⟩ | ⟨g, cap, cur, h1, _⟩
    · exact ⟨none, 0, 0, h1, h2.symm⟩
    · exact ⟨_, _, _, h1, rfl⟩
  have hro : ∀ t l, Obj.cells cs tc (0, 0) ≠ R8 t l := by
    intro t l' e
    cases e
    simp at h0
  have HN := hid hn'
  have hn1 : n ≤ 400 := by omega
  clear hn' hll
  go_enter Salg.func166, Salg.ntmps166
  go_wp2_with ((with_reducible apply L_box (d := 3) M); rfl; clear M; intro c1 w1 hc1 M; simp only [Act.put, List.setIfInBounds_toArray, List.set_cons_zero, List.set_cons_succ])
  have HC := hid (empty_no c1 q nv N w1 M.r0 HQ.out hn (HNV.out.kept0 M hr hro) hN0)
  refine HC.out.mono ?_
  rintro e w2 ⟨rfl, K⟩
  replace M := M.call K
  clear K HC HNV hN0 hn
  go_wp2_with ((with_reducible apply W_loadCell); rfl; exact M.r1; exact h0; exact Salg.underlying108; rfl; simp only [Act.put, List.setIfInBounds_toArray, List.set_cons_zero, List.set_cons_succ])
  have hcB : c < w2.heap.size := lt_of_row M.r1
  have hc1B : c1 < w2.heap.size := lt_of_row M.r0
  go_loopw [4, 5, 20] (fun lv tv iv wr => ∃ (i : Nat) (t : Bool) (out : List Ac), i ≤ n ∧ iv = .int .i64 i ∧ tv = .bool t ∧ out.length ≤ 2 * i ∧ out ++ acPut q t (l.drop i) = acPut q false l ∧ (∀ p ∈ out, p.Ok) ∧ wr.ownsRow w2.heap.size 128 24 lv out.length (acsL out) ∧ w2.heap.size ≤ wr.heap.size ∧ Mem w [c] [(c1, .cells q.cells.toArray 128 (0, 0)), (c, .cells cs tc (0, 0))] wr) (fun _ _ iv _ => (n - intOf iv).toNat)
  case atStart => exact ⟨0, false, [], by omega, rfl, rfl, by simp, by simp, by simp, own_nil _ _ _ _, Nat.le_refl _, M⟩
  case round =>
    clear M
    obtain ⟨i, t, out, hi, rfl, rfl, hol, hpu, hok, hown, hBw, M⟩ := hrel
    have HPU := hid hpu
    have HOK := hid hok
    have OWN := hid hown
    clear hpu hok hown
    rcases Nat.lt_or_ge i n with hlt | hge
    · have hil : i < l.length := by rw [← HN.out]; exact hlt
      obtain ⟨g, cap', cur, hpe, hrg, hsz, hex⟩ := HV.out.at hil
      cases hpe
      have hgc : g ≠ c := by rintro rfl; rw [hr] at hrg; cases hrg; exact htc rfl
      have hxo := HV.out.ok l[i] (List.getElem_mem hil)
      have HXO := hid hxo
      have hxl := hxo.len
      have HEX := hid hex
      have HXA := hid (cells_addr hxo)
      have HQA := hid (cells_addr HQ.out)
      have HBE := hid (fun w => before_any l[i].adr q.adr w hxo.ha HQ.out.ha hxo.hs HQ.out.hs)
      have HDR : Hid (l.drop i = l[i] :: l.drop (i + 1)) := List.drop_eq_getElem_cons hil
      rw [HDR.out, acPut] at HPU
      clear hxo hex HDR
      generalize l[i] = x at *
      generalize hlv : u4 = lv at *
      cases t
      · cases hlt2 : adLt x.adr q.adr
        · have DL : Hid (adLt x.adr q.adr = false) := hlt2
          simp only [hlt2, Bool.not_false, Bool.not_true, Bool.and_self, Bool.and_false, Bool.or_true, Bool.or_false, Bool.false_or, if_true, Bool.false_eq_true, if_false, List.nil_append] at HPU
          clear hlt2
          by_cases hxq : x.adr = q.adr
          · have DE : Hid (decide (x.adr = q.adr) = true) := decide_eq_true hxq
            simp only [hxq, if_true, if_false, List.nil_append] at HPU
            clear hxq
            go_wp2_with (first
              | ((with_reducible apply W_load (n := 24) (o := i * 24)); rfl; exact M.kept.row hrg (by simpa using hgc); exact Salg.underlying128; rfl; exact size128; exact hsz; rw [HEX.out]; simp only [Act.put, List.setIfInBounds_toArray, List.set_cons_zero, List.set_cons_succ])
              | ((with_reducible apply L_allocN (d := 7) M); exact zero128; clear M; intro c3 w5 hc3 hc3N K5 M; have HG3 : Hid (∀ g', Value.ownBlock lv = some g' → g' ≠ c3) := (fun g' hg' => by have := (own_block OWN.out hg').2; omega); replace OWN := hid (own_kept OWN.out K5); replace hBw := Nat.le_trans hBw K5.size; clear K5; simp only [Act.put, List.setIfInBounds_toArray, List.set_cons_zero, List.set_cons_succ])
              | ((with_reducible apply W_storeK (b := c3) (vs := x.cells.toArray)); rfl; rfl; exact M.r0; exact size128; (simp [hxl, z8]); (simpa using HXO.out.one); intro w3 K hr3; replace OWN := hid (own_keptX OWN.out K (by intro g' hg'; simpa using HG3.out g' hg')); replace hBw := Nat.le_trans hBw K.size; replace M := Mem.callPut (L1 := []) M (Or.inr (by assumption)) K hr3; clear K hr3; simp only [List.cons_append, List.nil_append] at M)
              | ((with_reducible apply W_load (n := 20) (o := 0)); rfl; exact M.r0; exact Salg.underlying45; rfl; exact size45; (simp [hxl]); rw [HXA.out]; simp only [Act.put, List.setIfInBounds_toArray, List.set_cons_zero, List.set_cons_succ])
              | ((with_reducible apply W_load (n := 20) (o := 0)); rfl; exact M.r1; exact Salg.underlying45; rfl; exact size45; (simp [hcl]); rw [HQA.out]; simp only [Act.put, List.setIfInBounds_toArray, List.set_cons_zero, List.set_cons_succ])
              | ((with_reducible apply L_runG); rfl; exact Go.Own.run_load (n := 20) (o := 0) M.r0 rfl Salg.underlying45 rfl size45 (by simp [hxl]); rw [HXA.out]; simp only [Act.put, List.setIfInBounds_toArray, List.set_cons_zero, List.set_cons_succ])
              | ((with_reducible apply L_runG); rfl; exact Go.Own.run_load (n := 20) (o := 0) M.r1 rfl Salg.underlying45 rfl size45 (by simp [hcl]); rw [HQA.out]; simp only [Act.put, List.setIfInBounds_toArray, List.set_cons_zero, List.set_cons_succ])
              | ((with_reducible apply W_neq8); rfl; rfl; exact Salg.underlying45; exact Salg.underlying5; exact size5; exact guard45; exact HXO.out.ha; exact HQ.out.ha; simp only [DE.out]; simp only [Act.put, List.setIfInBounds_toArray, List.set_cons_zero, List.set_cons_succ])
              | ((with_reducible apply W_loadAll (dst := 35)); rfl; exact M.r1; exact Salg.underlying128; rfl; (rw [size128]; simp [hcl]); simp only [Act.put, List.setIfInBounds_toArray, List.set_cons_zero, List.set_cons_succ])
              | ((with_reducible apply W_buildOne (d := 36) M); rfl; exact Salg.underlying108; exact size128; exact zero128s; (simp [hcl]); decide; decide; clear M; intro bn w6 hbn hbnN K6 M; replace OWN := hid (own_kept OWN.out K6); replace hBw := Nat.le_trans hBw K6.size; clear K6; simp only [Act.put, List.setIfInBounds_toArray, List.set_cons_zero, List.set_cons_succ])
              | ((with_reducible apply W_appendOne (d := 37) (base := w2.heap.size) (n := (out).length) M.tail info128 Salg.underlying108); kernel_rfl; decide; decide; rfl; rfl; exact OWN.out; (first | omega | (simp only [List.length_append, List.length_cons, List.length_nil]; omega)); exact M.r0; (simp [hcl]); (simpa using HQ.out.one); exact Nat.le_of_lt (Nat.lt_of_le_of_lt hc1 hc1B); exact hBw; exact (by intro p hp e; have hb := own_block OWN.out e; simp only [List.mem_cons, List.not_mem_nil, or_false] at hp; rcases hp with rfl | rfl | rfl; exact HG3.out _ e rfl; (have := hb.1; omega); (have := hb.1; omega)); clear M; intro lv' w7 M hown' hBw'; replace OWN : Hid (w7.ownsRow w2.heap.size 128 24 lv' (out ++ [q]).length (acsL (out ++ [q]))) := (by rw [acsL_snoc, List.length_append]; exact hown'); clear hown' hBw; have hBw := hBw'; clear hBw'; simp only [Act.put, List.setIfInBounds_toArray, List.set_cons_zero, List.set_cons_succ]))
            refine (HBE.out _).mono ?_
            rintro e w9 ⟨rfl, K⟩
            replace M := M.call K
            replace OWN := hid (own_kept OWN.out K)
            replace hBw := Nat.le_trans hBw K.size
            clear K HBE
            rw [DL.out]
            go_wp2_with (first
              | ((with_reducible apply W_load (n := 24) (o := i * 24)); rfl; exact M.kept.row hrg (by simpa using hgc); exact Salg.underlying128; rfl; exact size128; exact hsz; rw [HEX.out]; simp only [Act.put, List.setIfInBounds_toArray, List.set_cons_zero, List.set_cons_succ])
              | ((with_reducible apply L_allocN (d := 7) M); exact zero128; clear M; intro c3 w5 hc3 hc3N K5 M; have HG3 : Hid (∀ g', Value.ownBlock lv = some g' → g' ≠ c3) := (fun g' hg' => by have := (own_block OWN.out hg').2; omega); replace OWN := hid (own_kept OWN.out K5); replace hBw := Nat.le_trans hBw K5.size; clear K5; simp only [Act.put, List.setIfInBounds_toArray, List.set_cons_zero, List.set_cons_succ])
              | ((with_reducible apply W_storeK (b := c3) (vs := x.cells.toArray)); rfl; rfl; exact M.r0; exact size128; (simp [hxl, z8]); (simpa using HXO.out.one); intro w3 K hr3; replace OWN := hid (own_keptX OWN.out K (by intro g' hg'; simpa using HG3.out g' hg')); replace hBw := Nat.le_trans hBw K.size; replace M := Mem.callPut (L1 := []) M (Or.inr (by assumption)) K hr3; clear K hr3; simp only [List.cons_append, List.nil_append] at M)
              | ((with_reducible apply W_load (n := 20) (o := 0)); rfl; exact M.r0; exact Salg.underlying45; rfl; exact size45; (simp [hxl]); rw [HXA.out]; simp only [Act.put, List.setIfInBounds_toArray, List.set_cons_zero, List.set_cons_succ])
              | ((with_reducible apply W_load (n := 20) (o := 0)); rfl; exact M.r1; exact Salg.underlying45; rfl; exact size45; (simp [hcl]); rw [HQA.out]; simp only [Act.put, List.setIfInBounds_toArray, List.set_cons_zero, List.set_cons_succ])
              | ((with_reducible apply L_runG); rfl; exact Go.Own.run_load (n := 20) (o := 0) M.r0 rfl Salg.underlying45 rfl size45 (by simp [hxl]); rw [HXA.out]; simp only [Act.put, List.setIfInBounds_toArray, List.set_cons_zero, List.set_cons_succ])
              | ((with_reducible apply L_runG); rfl; exact Go.Own.run_load (n := 20) (o := 0) M.r1 rfl Salg.underlying45 rfl size45 (by simp [hcl]); rw [HQA.out]; simp only [Act.put, List.setIfInBounds_toArray, List.set_cons_zero, List.set_cons_succ])
              | ((with_reducible apply W_neq8); rfl; rfl; exact Salg.underlying45; exact Salg.underlying5; exact size5; exact guard45; exact HXO.out.ha; exact HQ.out.ha; simp only [DE.out]; simp only [Act.put, List.setIfInBounds_toArray, List.set_cons_zero, List.set_cons_succ])
              | ((with_reducible apply W_loadAll (dst := 35)); rfl; exact M.r1; exact Salg.underlying128; rfl; (rw [size128]; simp [hcl]); simp only [Act.put, List.setIfInBounds_toArray, List.set_cons_zero, List.set_cons_succ])
              | ((with_reducible apply W_buildOne (d := 36) M); rfl; exact Salg.underlying108; exact size128; exact zero128s; (simp [hcl]); decide; decide; clear M; intro bn w6 hbn hbnN K6 M; replace OWN := hid (own_kept OWN.out K6); replace hBw := Nat.le_trans hBw K6.size; clear K6; simp only [Act.put, List.setIfInBounds_toArray, List.set_cons_zero, List.set_cons_succ])
              | ((with_reducible apply W_appendOne (d := 37) (base := w2.heap.size) (n := (out).length) M.tail info128 Salg.underlying108); kernel_rfl; decide; decide; rfl; rfl; exact OWN.out; (first | omega | (simp only [List.length_append, List.length_cons, List.length_nil]; omega)); exact M.r0; (simp [hcl]); (simpa using HQ.out.one); exact Nat.le_of_lt (Nat.lt_of_le_of_lt hc1 hc1B); exact hBw; exact (by intro p hp e; have hb := own_block OWN.out e; simp only [List.mem_cons, List.not_mem_nil, or_false] at hp; rcases hp with rfl | rfl | rfl; exact HG3.out _ e rfl; (have := hb.1; omega); (have := hb.1; omega)); clear M; intro lv' w7 M hown' hBw'; replace OWN : Hid (w7.ownsRow w2.heap.size 128 24 lv' (out ++ [q]).length (acsL (out ++ [q]))) := (by rw [acsL_snoc, List.length_append]; exact hown'); clear hown' hBw; have hBw := hBw'; clear hBw'; simp only [Act.put, List.setIfInBounds_toArray, List.set_cons_zero, List.set_cons_succ]))
            replace M := M.tail
            go_roundw
            case rel => exact ⟨i + 1, true, out ++ [q], by omega, by go_num, rfl, by first | omega | (simp; omega), by simpa using HPU.out, (by intro p hp; simp only [List.mem_append, List.mem_singleton] at hp; rcases hp with hp | rfl; exact HOK.out p hp; exact HQ.out), OWN.out, hBw, M⟩
            case measure => simp [intOf]; omega
          · have DE : Hid (decide (x.adr = q.adr) = false) := decide_eq_false hxq
            simp only [hxq, if_true, if_false, List.nil_append] at HPU
            clear hxq
            go_wp2_with (first
              | ((with_reducible apply W_load (n := 24) (o := i * 24)); rfl; exact M.kept.row hrg (by simpa using hgc); exact Salg.underlying128; rfl; exact size128; exact hsz; rw [HEX.out]; simp only [Act.put, List.setIfInBounds_toArray, List.set_cons_zero, List.set_cons_succ])
              | ((with_reducible apply L_allocN (d := 7) M); exact zero128; clear M; intro c3 w5 hc3 hc3N K5 M; have HG3 : Hid (∀ g', Value.ownBlock lv = some g' → g' ≠ c3) := (fun g' hg' => by have := (own_block OWN.out hg').2; omega); replace OWN := hid (own_kept OWN.out K5); replace hBw := Nat.le_trans hBw K5.size; clear K5; simp only [Act.put, List.setIfInBounds_toArray, List.set_cons_zero, List.set_cons_succ])
              | ((with_reducible apply W_storeK (b := c3) (vs := x.cells.toArray)); rfl; rfl; exact M.r0; exact size128; (simp [hxl, z8]); (simpa using HXO.out.one); intro w3 K hr3; replace OWN := hid (own_keptX OWN.out K (by intro g' hg'; simpa using HG3.out g' hg')); replace hBw := Nat.le_trans hBw K.size; replace M := Mem.callPut (L1 := []) M (Or.inr (by assumption)) K hr3; clear K hr3; simp only [List.cons_append, List.nil_append] at M)
              | ((with_reducible apply W_load (n := 20) (o := 0)); rfl; exact M.r0; exact Salg.underlying45; rfl; exact size45; (simp [hxl]); rw [HXA.out]; simp only [Act.put, List.setIfInBounds_toArray, List.set_cons_zero, List.set_cons_succ])
              | ((with_reducible apply W_load (n := 20) (o := 0)); rfl; exact M.r1; exact Salg.underlying45; rfl; exact size45; (simp [hcl]); rw [HQA.out]; simp only [Act.put, List.setIfInBounds_toArray, List.set_cons_zero, List.set_cons_succ])
              | ((with_reducible apply L_runG); rfl; exact Go.Own.run_load (n := 20) (o := 0) M.r0 rfl Salg.underlying45 rfl size45 (by simp [hxl]); rw [HXA.out]; simp only [Act.put, List.setIfInBounds_toArray, List.set_cons_zero, List.set_cons_succ])
              | ((with_reducible apply L_runG); rfl; exact Go.Own.run_load (n := 20) (o := 0) M.r1 rfl Salg.underlying45 rfl size45 (by simp [hcl]); rw [HQA.out]; simp only [Act.put, List.setIfInBounds_toArray, List.set_cons_zero, List.set_cons_succ])
              | ((with_reducible apply W_neq8); rfl; rfl; exact Salg.underlying45; exact Salg.underlying5; exact size5; exact guard45; exact HXO.out.ha; exact HQ.out.ha; simp only [DE.out]; simp only [Act.put, List.setIfInBounds_toArray, List.set_cons_zero, List.set_cons_succ])
              | ((with_reducible apply W_loadAll (dst := 35)); rfl; exact M.r1; exact Salg.underlying128; rfl; (rw [size128]; simp [hcl]); simp only [Act.put, List.setIfInBounds_toArray, List.set_cons_zero, List.set_cons_succ])
              | ((with_reducible apply W_buildOne (d := 36) M); rfl; exact Salg.underlying108; exact size128; exact zero128s; (simp [hcl]); decide; decide; clear M; intro bn w6 hbn hbnN K6 M; replace OWN := hid (own_kept OWN.out K6); replace hBw := Nat.le_trans hBw K6.size; clear K6; simp only [Act.put, List.setIfInBounds_toArray, List.set_cons_zero, List.set_cons_succ])
              | ((with_reducible apply W_appendOne (d := 37) (base := w2.heap.size) (n := (out).length) M.tail info128 Salg.underlying108); kernel_rfl; decide; decide; rfl; rfl; exact OWN.out; (first | omega | (simp only [List.length_append, List.length_cons, List.length_nil]; omega)); exact M.r0; (simp [hcl]); (simpa using HQ.out.one); exact Nat.le_of_lt (Nat.lt_of_le_of_lt hc1 hc1B); exact hBw; exact (by intro p hp e; have hb := own_block OWN.out e; simp only [List.mem_cons, List.not_mem_nil, or_false] at hp; rcases hp with rfl | rfl | rfl; exact HG3.out _ e rfl; (have := hb.1; omega); (have := hb.1; omega)); clear M; intro lv' w7 M hown' hBw'; replace OWN : Hid (w7.ownsRow w2.heap.size 128 24 lv' (out ++ [q]).length (acsL (out ++ [q]))) := (by rw [acsL_snoc, List.length_append]; exact hown'); clear hown' hBw; have hBw := hBw'; clear hBw'; simp only [Act.put, List.setIfInBounds_toArray, List.set_cons_zero, List.set_cons_succ])
              | ((with_reducible apply W_loadAll (dst := 44)); rfl; exact M.r0; exact Salg.underlying128; rfl; (rw [size128]; simp [hxl]); simp only [Act.put, List.setIfInBounds_toArray, List.set_cons_zero, List.set_cons_succ])
              | ((with_reducible apply W_buildOne (d := 45) M); rfl; exact Salg.underlying108; exact size128; exact zero128s; (simp [hxl]); decide; decide; clear M; intro bn w6 hbn hbnN K6 M; replace OWN := hid (own_kept OWN.out K6); replace hBw := Nat.le_trans hBw K6.size; clear K6; simp only [Act.put, List.setIfInBounds_toArray, List.set_cons_zero, List.set_cons_succ])
              | ((with_reducible apply W_appendOne (d := 46) (base := w2.heap.size) (n := (out ++ [q]).length) M.tail.tail info128 Salg.underlying108); kernel_rfl; decide; decide; rfl; rfl; exact OWN.out; (first | omega | (simp only [List.length_append, List.length_cons, List.length_nil]; omega)); exact M.r0; (simp [hxl]); (simpa using HXO.out.one); exact Nat.le_of_lt (Nat.lt_of_le_of_lt hc1 hc1B); exact hBw; exact (by intro p hp e; have hb := own_block OWN.out e; simp only [List.mem_cons, List.not_mem_nil, or_false] at hp; rcases hp with rfl | rfl; (have := hb.1; omega); (have := hb.1; omega)); clear M; intro lv' w7 M hown' hBw'; replace OWN : Hid (w7.ownsRow w2.heap.size 128 24 lv' (out ++ [q] ++ [x]).length (acsL (out ++ [q] ++ [x]))) := (by rw [acsL_snoc, List.length_append]; exact hown'); clear hown' hBw; have hBw := hBw'; clear hBw'; simp only [Act.put, List.setIfInBounds_toArray, List.set_cons_zero, List.set_cons_succ]))
            refine (HBE.out _).mono ?_
            rintro e w9 ⟨rfl, K⟩
            replace M := M.call K
            replace OWN := hid (own_kept OWN.out K)
            replace hBw := Nat.le_trans hBw K.size
            clear K HBE
            rw [DL.out]
            go_wp2_with (first
              | ((with_reducible apply W_load (n := 24) (o := i * 24)); rfl; exact M.kept.row hrg (by simpa using hgc); exact Salg.underlying128; rfl; exact size128; exact hsz; rw [HEX.out]; simp only [Act.put, List.setIfInBounds_toArray, List.set_cons_zero, List.set_cons_succ])
              | ((with_reducible apply L_allocN (d := 7) M); exact zero128; clear M; intro c3 w5 hc3 hc3N K5 M; have HG3 : Hid (∀ g', Value.ownBlock lv = some g' → g' ≠ c3) := (fun g' hg' => by have := (own_block OWN.out hg').2; omega); replace OWN := hid (own_kept OWN.out K5); replace hBw := Nat.le_trans hBw K5.size; clear K5; simp only [Act.put, List.setIfInBounds_toArray, List.set_cons_zero, List.set_cons_succ])
              | ((with_reducible apply W_storeK (b := c3) (vs := x.cells.toArray)); rfl; rfl; exact M.r0; exact size128; (simp [hxl, z8]); (simpa using HXO.out.one); intro w3 K hr3; replace OWN := hid (own_keptX OWN.out K (by intro g' hg'; simpa using HG3.out g' hg')); replace hBw := Nat.le_trans hBw K.size; replace M := Mem.callPut (L1 := []) M (Or.inr (by assumption)) K hr3; clear K hr3; simp only [List.cons_append, List.nil_append] at M)
              | ((with_reducible apply W_load (n := 20) (o := 0)); rfl; exact M.r0; exact Salg.underlying45; rfl; exact size45; (simp [hxl]); rw [HXA.out]; simp only [Act.put, List.setIfInBounds_toArray, List.set_cons_zero, List.set_cons_succ])
              | ((with_reducible apply W_load (n := 20) (o := 0)); rfl; exact M.r1; exact Salg.underlying45; rfl; exact size45; (simp [hcl]); rw [HQA.out]; simp only [Act.put, List.setIfInBounds_toArray, List.set_cons_zero, List.set_cons_succ])
              | ((with_reducible apply L_runG); rfl; exact Go.Own.run_load (n := 20) (o := 0) M.r0 rfl Salg.underlying45 rfl size45 (by simp [hxl]); rw [HXA.out]; simp only [Act.put, List.setIfInBounds_toArray, List.set_cons_zero, List.set_cons_succ])
              | ((with_reducible apply L_runG); rfl; exact Go.Own.run_load (n := 20) (o := 0) M.r1 rfl Salg.underlying45 rfl size45 (by simp [hcl]); rw [HQA.out]; simp only [Act.put, List.setIfInBounds_toArray, List.set_cons_zero, List.set_cons_succ])
              | ((with_reducible apply W_neq8); rfl; rfl; exact Salg.underlying45; exact Salg.underlying5; exact size5; exact guard45; exact HXO.out.ha; exact HQ.out.ha; simp only [DE.out]; simp only [Act.put, List.setIfInBounds_toArray, List.set_cons_zero, List.set_cons_succ])
              | ((with_reducible apply W_loadAll (dst := 35)); rfl; exact M.r1; exact Salg.underlying128; rfl; (rw [size128]; simp [hcl]); simp only [Act.put, List.setIfInBounds_toArray, List.set_cons_zero, List.set_cons_succ])
              | ((with_reducible apply W_buildOne (d := 36) M); rfl; exact Salg.underlying108; exact size128; exact zero128s; (simp [hcl]); decide; decide; clear M; intro bn w6 hbn hbnN K6 M; replace OWN := hid (own_kept OWN.out K6); replace hBw := Nat.le_trans hBw K6.size; clear K6; simp only [Act.put, List.setIfInBounds_toArray, List.set_cons_zero, List.set_cons_succ])
              | ((with_reducible apply W_appendOne (d := 37) (base := w2.heap.size) (n := (out).length) M.tail info128 Salg.underlying108); kernel_rfl; decide; decide; rfl; rfl; exact OWN.out; (first | omega | (simp only [List.length_append, List.length_cons, List.length_nil]; omega)); exact M.r0; (simp [hcl]); (simpa using HQ.out.one); exact Nat.le_of_lt (Nat.lt_of_le_of_lt hc1 hc1B); exact hBw; exact (by intro p hp e; have hb := own_block OWN.out e; simp only [List.mem_cons, List.not_mem_nil, or_false] at hp; rcases hp with rfl | rfl | rfl; exact HG3.out _ e rfl; (have := hb.1; omega); (have := hb.1; omega)); clear M; intro lv' w7 M hown' hBw'; replace OWN : Hid (w7.ownsRow w2.heap.size 128 24 lv' (out ++ [q]).length (acsL (out ++ [q]))) := (by rw [acsL_snoc, List.length_append]; exact hown'); clear hown' hBw; have hBw := hBw'; clear hBw'; simp only [Act.put, List.setIfInBounds_toArray, List.set_cons_zero, List.set_cons_succ])
              | ((with_reducible apply W_loadAll (dst := 44)); rfl; exact M.r0; exact Salg.underlying128; rfl; (rw [size128]; simp [hxl]); simp only [Act.put, List.setIfInBounds_toArray, List.set_cons_zero, List.set_cons_succ])
              | ((with_reducible apply W_buildOne (d := 45) M); rfl; exact Salg.underlying108; exact size128; exact zero128s; (simp [hxl]); decide; decide; clear M; intro bn w6 hbn hbnN K6 M; replace OWN := hid (own_kept OWN.out K6); replace hBw := Nat.le_trans hBw K6.size; clear K6; simp only [Act.put, List.setIfInBounds_toArray, List.set_cons_zero, List.set_cons_succ])
              | ((with_reducible apply W_appendOne (d := 46) (base := w2.heap.size) (n := (out ++ [q]).length) M.tail.tail info128 Salg.underlying108); kernel_rfl; decide; decide; rfl; rfl; exact OWN.out; (first | omega | (simp only [List.length_append, List.length_cons, List.length_nil]; omega)); exact M.r0; (simp [hxl]); (simpa using HXO.out.one); exact Nat.le_of_lt (Nat.lt_of_le_of_lt hc1 hc1B); exact hBw; exact (by intro p hp e; have hb := own_block OWN.out e; simp only [List.mem_cons, List.not_mem_nil, or_false] at hp; rcases hp with rfl | rfl; (have := hb.1; omega); (have := hb.1; omega)); clear M; intro lv' w7 M hown' hBw'; replace OWN : Hid (w7.ownsRow w2.heap.size 128 24 lv' (out ++ [q] ++ [x]).length (acsL (out ++ [q] ++ [x]))) := (by rw [acsL_snoc, List.length_append]; exact hown'); clear hown' hBw; have hBw := hBw'; clear hBw'; simp only [Act.put, List.setIfInBounds_toArray, List.set_cons_zero, List.set_cons_succ]))
            go_roundw
            case rel => exact ⟨i + 1, true, out ++ [q] ++ [x], by omega, by go_num, rfl, by first | omega | (simp; omega), by simpa using HPU.out, (by intro p hp; simp only [List.mem_append, List.mem_singleton] at hp; rcases hp with (hp | rfl) | rfl; exact HOK.out p hp; exact HQ.out; exact HXO.out), OWN.out, hBw, M⟩
            case measure => simp [intOf]; omega
        · have DL : Hid (adLt x.adr q.adr = true) := hlt2
          simp only [hlt2, Bool.not_false, Bool.not_true, Bool.and_self, Bool.and_false, Bool.or_true, Bool.or_false, Bool.false_or, if_true, Bool.false_eq_true, if_false, List.nil_append] at HPU
          clear hlt2
          by_cases hxq : x.adr = q.adr
          · have DE : Hid (decide (x.adr = q.adr) = true) := decide_eq_true hxq
            simp only [hxq, if_true, if_false, List.nil_append] at HPU
            clear hxq
            go_wp2_with (first
              | ((with_reducible apply W_load (n := 24) (o := i * 24)); rfl; exact M.kept.row hrg (by simpa using hgc); exact Salg.underlying128; rfl; exact size128; exact hsz; rw [HEX.out]; simp only [Act.put, List.setIfInBounds_toArray, List.set_cons_zero, List.set_cons_succ])
              | ((with_reducible apply L_allocN (d := 7) M); exact zero128; clear M; intro c3 w5 hc3 hc3N K5 M; have HG3 : Hid (∀ g', Value.ownBlock lv = some g' → g' ≠ c3) := (fun g' hg' => by have := (own_block OWN.out hg').2; omega); replace OWN := hid (own_kept OWN.out K5); replace hBw := Nat.le_trans hBw K5.size; clear K5; simp only [Act.put, List.setIfInBounds_toArray, List.set_cons_zero, List.set_cons_succ])
              | ((with_reducible apply W_storeK (b := c3) (vs := x.cells.toArray)); rfl; rfl; exact M.r0; exact size128; (simp [hxl, z8]); (simpa using HXO.out.one); intro w3 K hr3; replace OWN := hid (own_keptX OWN.out K (by intro g' hg'; simpa using HG3.out g' hg')); replace hBw := Nat.le_trans hBw K.size; replace M := Mem.callPut (L1 := []) M (Or.inr (by assumption)) K hr3; clear K hr3; simp only [List.cons_append, List.nil_append] at M)
              | ((with_reducible apply W_load (n := 20) (o := 0)); rfl; exact M.r0; exact Salg.underlying45; rfl; exact size45; (simp [hxl]); rw [HXA.out]; simp only [Act.put, List.setIfInBounds_toArray, List.set_cons_zero, List.set_cons_succ])
              | ((with_reducible apply W_load (n := 20) (o := 0)); rfl; exact M.r1; exact Salg.underlying45; rfl; exact size45; (simp [hcl]); rw [HQA.out]; simp only [Act.put, List.setIfInBounds_toArray, List.set_cons_zero, List.set_cons_succ])
              | ((with_reducible apply L_runG); rfl; exact Go.Own.run_load (n := 20) (o := 0) M.r0 rfl Salg.underlying45 rfl size45 (by simp [hxl]); rw [HXA.out]; simp only [Act.put, List.setIfInBounds_toArray, List.set_cons_zero, List.set_cons_succ])
              | ((with_reducible apply L_runG); rfl; exact Go.Own.run_load (n := 20) (o := 0) M.r1 rfl Salg.underlying45 rfl size45 (by simp [hcl]); rw [HQA.out]; simp only [Act.put, List.setIfInBounds_toArray, List.set_cons_zero, List.set_cons_succ])
              | ((with_reducible apply W_neq8); rfl; rfl; exact Salg.underlying45; exact Salg.underlying5; exact size5; exact guard45; exact HXO.out.ha; exact HQ.out.ha; simp only [DE.out]; simp only [Act.put, List.setIfInBounds_toArray, List.set_cons_zero, List.set_cons_succ]))
            refine (HBE.out _).mono ?_
            rintro e w9 ⟨rfl, K⟩
            replace M := M.call K
            replace OWN := hid (own_kept OWN.out K)
            replace hBw := Nat.le_trans hBw K.size
            clear K HBE
            rw [DL.out]
            go_wp2_with (first
              | ((with_reducible apply W_load (n := 24) (o := i * 24)); rfl; exact M.kept.row hrg (by simpa using hgc); exact Salg.underlying128; rfl; exact size128; exact hsz; rw [HEX.out]; simp only [Act.put, List.setIfInBounds_toArray, List.set_cons_zero, List.set_cons_succ])
              | ((with_reducible apply L_allocN (d := 7) M); exact zero128; clear M; intro c3 w5 hc3 hc3N K5 M; have HG3 : Hid (∀ g', Value.ownBlock lv = some g' → g' ≠ c3) := (fun g' hg' => by have := (own_block OWN.out hg').2; omega); replace OWN := hid (own_kept OWN.out K5); replace hBw := Nat.le_trans hBw K5.size; clear K5; simp only [Act.put, List.setIfInBounds_toArray, List.set_cons_zero, List.set_cons_succ])
              | ((with_reducible apply W_storeK (b := c3) (vs := x.cells.toArray)); rfl; rfl; exact M.r0; exact size128; (simp [hxl, z8]); (simpa using HXO.out.one); intro w3 K hr3; replace OWN := hid (own_keptX OWN.out K (by intro g' hg'; simpa using HG3.out g' hg')); replace hBw := Nat.le_trans hBw K.size; replace M := Mem.callPut (L1 := []) M (Or.inr (by assumption)) K hr3; clear K hr3; simp only [List.cons_append, List.nil_append] at M)
              | ((with_reducible apply W_load (n := 20) (o := 0)); rfl; exact M.r0; exact Salg.underlying45; rfl; exact size45; (simp [hxl]); rw [HXA.out]; simp only [Act.put, List.setIfInBounds_toArray, List.set_cons_zero, List.set_cons_succ])
              | ((with_reducible apply W_load (n := 20) (o := 0)); rfl; exact M.r1; exact Salg.underlying45; rfl; exact size45; (simp [hcl]); rw [HQA.out]; simp only [Act.put, List.setIfInBounds_toArray, List.set_cons_zero, List.set_cons_succ])
              | ((with_reducible apply L_runG); rfl; exact Go.Own.run_load (n := 20) (o := 0) M.r0 rfl Salg.underlying45 rfl size45 (by simp [hxl]); rw [HXA.out]; simp only [Act.put, List.setIfInBounds_toArray, List.set_cons_zero, List.set_cons_succ])
              | ((with_reducible apply L_runG); rfl; exact Go.Own.run_load (n := 20) (o := 0) M.r1 rfl Salg.underlying45 rfl size45 (by simp [hcl]); rw [HQA.out]; simp only [Act.put, List.setIfInBounds_toArray, List.set_cons_zero, List.set_cons_succ])
              | ((with_reducible apply W_neq8); rfl; rfl; exact Salg.underlying45; exact Salg.underlying5; exact size5; exact guard45; exact HXO.out.ha; exact HQ.out.ha; simp only [DE.out]; simp only [Act.put, List.setIfInBounds_toArray, List.set_cons_zero, List.set_cons_succ]))
            replace M := M.tail
            go_roundw
            case rel => exact ⟨i + 1, false, out, by omega, by go_num, rfl, by first | omega | (simp; omega), by simpa using HPU.out, HOK.out, OWN.out, hBw, M⟩
            case measure => simp [intOf]; omega
          · have DE : Hid (decide (x.adr = q.adr) = false) := decide_eq_false hxq
            simp only [hxq, if_true, if_false, List.nil_append] at HPU
            clear hxq
            go_wp2_with (first
              | ((with_reducible apply W_load (n := 24) (o := i * 24)); rfl; exact M.kept.row hrg (by simpa using hgc); exact Salg.underlying128; rfl; exact size128; exact hsz; rw [HEX.out]; simp only [Act.put, List.setIfInBounds_toArray, List.set_cons_zero, List.set_cons_succ])
              | ((with_reducible apply L_allocN (d := 7) M); exact zero128; clear M; intro c3 w5 hc3 hc3N K5 M; have HG3 : Hid (∀ g', Value.ownBlock lv = some g' → g' ≠ c3) := (fun g' hg' => by have := (own_block OWN.out hg').2; omega); replace OWN := hid (own_kept OWN.out K5); replace hBw := Nat.le_trans hBw K5.size; clear K5; simp only [Act.put, List.setIfInBounds_toArray, List.set_cons_zero, List.set_cons_succ])
              | ((with_reducible apply W_storeK (b := c3) (vs := x.cells.toArray)); rfl; rfl; exact M.r0; exact size128; (simp [hxl, z8]); (simpa using HXO.out.one); intro w3 K hr3; replace OWN := hid (own_keptX OWN.out K (by intro g' hg'; simpa using HG3.out g' hg')); replace hBw := Nat.le_trans hBw K.size; replace M := Mem.callPut (L1 := []) M (Or.inr (by assumption)) K hr3; clear K hr3; simp only [List.cons_append, List.nil_append] at M)
              | ((with_reducible apply W_load (n := 20) (o := 0)); rfl; exact M.r0; exact Salg.underlying45; rfl; exact size45; (simp [hxl]); rw [HXA.out]; simp only [Act.put, List.setIfInBounds_toArray, List.set_cons_zero, List.set_cons_succ])
              | ((with_reducible apply W_load (n := 20) (o := 0)); rfl; exact M.r1; exact Salg.underlying45; rfl; exact size45; (simp [hcl]); rw [HQA.out]; simp only [Act.put, List.setIfInBounds_toArray, List.set_cons_zero, List.set_cons_succ])
              | ((with_reducible apply L_runG); rfl; exact Go.Own.run_load (n := 20) (o := 0) M.r0 rfl Salg.underlying45 rfl size45 (by simp [hxl]); rw [HXA.out]; simp only [Act.put, List.setIfInBounds_toArray, List.set_cons_zero, List.set_cons_succ])
              | ((with_reducible apply L_runG); rfl; exact Go.Own.run_load (n := 20) (o := 0) M.r1 rfl Salg.underlying45 rfl size45 (by simp [hcl]); rw [HQA.out]; simp only [Act.put, List.setIfInBounds_toArray, List.set_cons_zero, List.set_cons_succ])
              | ((with_reducible apply W_neq8); rfl; rfl; exact Salg.underlying45; exact Salg.underlying5; exact size5; exact guard45; exact HXO.out.ha; exact HQ.out.ha; simp only [DE.out]; simp only [Act.put, List.setIfInBounds_toArray, List.set_cons_zero, List.set_cons_succ])
              | ((with_reducible apply W_loadAll (dst := 44)); rfl; exact M.r0; exact Salg.underlying128; rfl; (rw [size128]; simp [hxl]); simp only [Act.put, List.setIfInBounds_toArray, List.set_cons_zero, List.set_cons_succ])
              | ((with_reducible apply W_buildOne (d := 45) M); rfl; exact Salg.underlying108; exact size128; exact zero128s; (simp [hxl]); decide; decide; clear M; intro bn w6 hbn hbnN K6 M; replace OWN := hid (own_kept OWN.out K6); replace hBw := Nat.le_trans hBw K6.size; clear K6; simp only [Act.put, List.setIfInBounds_toArray, List.set_cons_zero, List.set_cons_succ])
              | ((with_reducible apply W_appendOne (d := 46) (base := w2.heap.size) (n := (out).length) M.tail.tail info128 Salg.underlying108); kernel_rfl; decide; decide; rfl; rfl; exact OWN.out; (first | omega | (simp only [List.length_append, List.length_cons, List.length_nil]; omega)); exact M.r0; (simp [hxl]); (simpa using HXO.out.one); exact Nat.le_of_lt (Nat.lt_of_le_of_lt hc1 hc1B); exact hBw; exact (by intro p hp e; have hb := own_block OWN.out e; simp only [List.mem_cons, List.not_mem_nil, or_false] at hp; rcases hp with rfl | rfl; (have := hb.1; omega); (have := hb.1; omega)); clear M; intro lv' w7 M hown' hBw'; replace OWN : Hid (w7.ownsRow w2.heap.size 128 24 lv' (out ++ [x]).length (acsL (out ++ [x]))) := (by rw [acsL_snoc, List.length_append]; exact hown'); clear hown' hBw; have hBw := hBw'; clear hBw'; simp only [Act.put, List.setIfInBounds_toArray, List.set_cons_zero, List.set_cons_succ]))
            refine (HBE.out _).mono ?_
            rintro e w9 ⟨rfl, K⟩
            replace M := M.call K
            replace OWN := hid (own_kept OWN.out K)
            replace hBw := Nat.le_trans hBw K.size
            clear K HBE
            rw [DL.out]
            go_wp2_with (first
              | ((with_reducible apply W_load (n := 24) (o := i * 24)); rfl; exact M.kept.row hrg (by simpa using hgc); exact Salg.underlying128; rfl; exact size128; exact hsz; rw [HEX.out]; simp only [Act.put, List.setIfInBounds_toArray, List.set_cons_zero, List.set_cons_succ])
              | ((with_reducible apply L_allocN (d := 7) M); exact zero128; clear M; intro c3 w5 hc3 hc3N K5 M; have HG3 : Hid (∀ g', Value.ownBlock lv = some g' → g' ≠ c3) := (fun g' hg' => by have := (own_block OWN.out hg').2; omega); replace OWN := hid (own_kept OWN.out K5); replace hBw := Nat.le_trans hBw K5.size; clear K5; simp only [Act.put, List.setIfInBounds_toArray, List.set_cons_zero, List.set_cons_succ])
              | ((with_reducible apply W_storeK (b := c3) (vs := x.cells.toArray)); rfl; rfl; exact M.r0; exact size128; (simp [hxl, z8]); (simpa using HXO.out.one); intro w3 K hr3; replace OWN := hid (own_keptX OWN.out K (by intro g' hg'; simpa using HG3.out g' hg')); replace hBw := Nat.le_trans hBw K.size; replace M := Mem.callPut (L1 := []) M (Or.inr (by assumption)) K hr3; clear K hr3; simp only [List.cons_append, List.nil_append] at M)
              | ((with_reducible apply W_load (n := 20) (o := 0)); rfl; exact M.r0; exact Salg.underlying45; rfl; exact size45; (simp [hxl]); rw [HXA.out]; simp only [Act.put, List.setIfInBounds_toArray, List.set_cons_zero, List.set_cons_succ])
              | ((with_reducible apply W_load (n := 20) (o := 0)); rfl; exact M.r1; exact Salg.underlying45; rfl; exact size45; (simp [hcl]); rw [HQA.out]; simp only [Act.put, List.setIfInBounds_toArray, List.set_cons_zero, List.set_cons_succ])
              | ((with_reducible apply L_runG); rfl; exact Go.Own.run_load (n := 20) (o := 0) M.r0 rfl Salg.underlying45 rfl size45 (by simp [hxl]); rw [HXA.out]; simp only [Act.put, List.setIfInBounds_toArray, List.set_cons_zero, List.set_cons_succ])
              | ((with_reducible apply L_runG); rfl; exact Go.Own.run_load (n := 20) (o := 0) M.r1 rfl Salg.underlying45 rfl size45 (by simp [hcl]); rw [HQA.out]; simp only [Act.put, List.setIfInBounds_toArray, List.set_cons_zero, List.set_cons_succ])
              | ((with_reducible apply W_neq8); rfl; rfl; exact Salg.underlying45; exact Salg.underlying5; exact size5; exact guard45; exact HXO.out.ha; exact HQ.out.ha; simp only [DE.out]; simp only [Act.put, List.setIfInBounds_toArray, List.set_cons_zero, List.set_cons_succ])
              | ((with_reducible apply W_loadAll (dst := 44)); rfl; exact M.r0; exact Salg.underlying128; rfl; (rw [size128]; simp [hxl]); simp only [Act.put, List.setIfInBounds_toArray, List.set_cons_zero, List.set_cons_succ])
              | ((with_reducible apply W_buildOne (d := 45) M); rfl; exact Salg.underlying108; exact size128; exact zero128s; (simp [hxl]); decide; decide; clear M; intro bn w6 hbn hbnN K6 M; replace OWN := hid (own_kept OWN.out K6); replace hBw := Nat.le_trans hBw K6.size; clear K6; simp only [Act.put, List.setIfInBounds_toArray, List.set_cons_zero, List.set_cons_succ])
              | ((with_reducible apply W_appendOne (d := 46) (base := w2.heap.size) (n := (out).length) M.tail.tail info128 Salg.underlying108); kernel_rfl; decide; decide; rfl; rfl; exact OWN.out; (first | omega | (simp only [List.length_append, List.length_cons, List.length_nil]; omega)); exact M.r0; (simp [hxl]); (simpa using HXO.out.one); exact Nat.le_of_lt (Nat.lt_of_le_of_lt hc1 hc1B); exact hBw; exact (by intro p hp e; have hb := own_block OWN.out e; simp only [List.mem_cons, List.not_mem_nil, or_false] at hp; rcases hp with rfl | rfl; (have := hb.1; omega); (have := hb.1; omega)); clear M; intro lv' w7 M hown' hBw'; replace OWN : Hid (w7.ownsRow w2.heap.size 128 24 lv' (out ++ [x]).length (acsL (out ++ [x]))) := (by rw [acsL_snoc, List.length_append]; exact hown'); clear hown' hBw; have hBw := hBw'; clear hBw'; simp only [Act.put, List.setIfInBounds_toArray, List.set_cons_zero, List.set_cons_succ]))
            go_roundw
            case rel => exact ⟨i + 1, false, out ++ [x], by omega, by go_num, rfl, by first | omega | (simp; omega), by simpa using HPU.out, (by intro p hp; simp only [List.mem_append, List.mem_singleton] at hp; rcases hp with hp | rfl; exact HOK.out p hp; exact HXO.out), OWN.out, hBw, M⟩
            case measure => simp [intOf]; omega
      · simp only [Bool.not_true, Bool.false_and, Bool.true_or, Bool.false_eq_true, if_false, List.nil_append] at HPU
        by_cases hxq : x.adr = q.adr
        · have DE : Hid (decide (x.adr = q.adr) = true) := decide_eq_true hxq
          simp only [hxq, if_true, if_false, List.nil_append] at HPU
          clear hxq
          go_wp2_with (first
            | ((with_reducible apply W_load (n := 24) (o := i * 24)); rfl; exact M.kept.row hrg (by simpa using hgc); exact Salg.underlying128; rfl; exact size128; exact hsz; rw [HEX.out]; simp only [Act.put, List.setIfInBounds_toArray, List.set_cons_zero, List.set_cons_succ])
            | ((with_reducible apply L_allocN (d := 7) M); exact zero128; clear M; intro c3 w5 hc3 hc3N K5 M; have HG3 : Hid (∀ g', Value.ownBlock lv = some g' → g' ≠ c3) := (fun g' hg' => by have := (own_block OWN.out hg').2; omega); replace OWN := hid (own_kept OWN.out K5); replace hBw := Nat.le_trans hBw K5.size; clear K5; simp only [Act.put, List.setIfInBounds_toArray, List.set_cons_zero, List.set_cons_succ])
            | ((with_reducible apply W_storeK (b := c3) (vs := x.cells.toArray)); rfl; rfl; exact M.r0; exact size128; (simp [hxl, z8]); (simpa using HXO.out.one); intro w3 K hr3; replace OWN := hid (own_keptX OWN.out K (by intro g' hg'; simpa using HG3.out g' hg')); replace hBw := Nat.le_trans hBw K.size; replace M := Mem.callPut (L1 := []) M (Or.inr (by assumption)) K hr3; clear K hr3; simp only [List.cons_append, List.nil_append] at M)
            | ((with_reducible apply W_load (n := 20) (o := 0)); rfl; exact M.r0; exact Salg.underlying45; rfl; exact size45; (simp [hxl]); rw [HXA.out]; simp only [Act.put, List.setIfInBounds_toArray, List.set_cons_zero, List.set_cons_succ])
            | ((with_reducible apply W_load (n := 20) (o := 0)); rfl; exact M.r1; exact Salg.underlying45; rfl; exact size45; (simp [hcl]); rw [HQA.out]; simp only [Act.put, List.setIfInBounds_toArray, List.set_cons_zero, List.set_cons_succ])
            | ((with_reducible apply L_runG); rfl; exact Go.Own.run_load (n := 20) (o := 0) M.r0 rfl Salg.underlying45 rfl size45 (by simp [hxl]); rw [HXA.out]; simp only [Act.put, List.setIfInBounds_toArray, List.set_cons_zero, List.set_cons_succ])
            | ((with_reducible apply L_runG); rfl; exact Go.Own.run_load (n := 20) (o := 0) M.r1 rfl Salg.underlying45 rfl size45 (by simp [hcl]); rw [HQA.out]; simp only [Act.put, List.setIfInBounds_toArray, List.set_cons_zero, List.set_cons_succ])
            | ((with_reducible apply W_neq8); rfl; rfl; exact Salg.underlying45; exact Salg.underlying5; exact size5; exact guard45; exact HXO.out.ha; exact HQ.out.ha; simp only [DE.out]; simp only [Act.put, List.setIfInBounds_toArray, List.set_cons_zero, List.set_cons_succ]))
          replace M := M.tail
          go_roundw
          case rel => exact ⟨i + 1, true, out, by omega, by go_num, rfl, by first | omega | (simp; omega), by simpa using HPU.out, HOK.out, OWN.out, hBw, M⟩
          case measure => simp [intOf]; omega
        · have DE : Hid (decide (x.adr = q.adr) = false) := decide_eq_false hxq
          simp only [hxq, if_true, if_false, List.nil_append] at HPU
          clear hxq
          go_wp2_with (first
            | ((with_reducible apply W_load (n := 24) (o := i * 24)); rfl; exact M.kept.row hrg (by simpa using hgc); exact Salg.underlying128; rfl; exact size128; exact hsz; rw [HEX.out]; simp only [Act.put, List.setIfInBounds_toArray, List.set_cons_zero, List.set_cons_succ])
            | ((with_reducible apply L_allocN (d := 7) M); exact zero128; clear M; intro c3 w5 hc3 hc3N K5 M; have HG3 : Hid (∀ g', Value.ownBlock lv = some g' → g' ≠ c3) := (fun g' hg' => by have := (own_block OWN.out hg').2; omega); replace OWN := hid (own_kept OWN.out K5); replace hBw := Nat.le_trans hBw K5.size; clear K5; simp only [Act.put, List.setIfInBounds_toArray, List.set_cons_zero, List.set_cons_succ])
            | ((with_reducible apply W_storeK (b := c3) (vs := x.cells.toArray)); rfl; rfl; exact M.r0; exact size128; (simp [hxl, z8]); (simpa using HXO.out.one); intro w3 K hr3; replace OWN := hid (own_keptX OWN.out K (by intro g' hg'; simpa using HG3.out g' hg')); replace hBw := Nat.le_trans hBw K.size; replace M := Mem.callPut (L1 := []) M (Or.inr (by assumption)) K hr3; clear K hr3; simp only [List.cons_append, List.nil_append] at M)
            | ((with_reducible apply W_load (n := 20) (o := 0)); rfl; exact M.r0; exact Salg.underlying45; rfl; exact size45; (simp [hxl]); rw [HXA.out]; simp only [Act.put, List.setIfInBounds_toArray, List.set_cons_zero, List.set_cons_succ])
            | ((with_reducible apply W_load (n := 20) (o := 0)); rfl; exact M.r1; exact Salg.underlying45; rfl; exact size45; (simp [hcl]); rw [HQA.out]; simp only [Act.put, List.setIfInBounds_toArray, List.set_cons_zero, List.set_cons_succ])
            | ((with_reducible apply L_runG); rfl; exact Go.Own.run_load (n := 20) (o := 0) M.r0 rfl Salg.underlying45 rfl size45 (by simp [hxl]); rw [HXA.out]; simp only [Act.put, List.setIfInBounds_toArray, List.set_cons_zero, List.set_cons_succ])
            | ((with_reducible apply L_runG); rfl; exact Go.Own.run_load (n := 20) (o := 0) M.r1 rfl Salg.underlying45 rfl size45 (by simp [hcl]); rw [HQA.out]; simp only [Act.put, List.setIfInBounds_toArray, List.set_cons_zero, List.set_cons_succ])
            | ((with_reducible apply W_neq8); rfl; rfl; exact Salg.underlying45; exact Salg.underlying5; exact size5; exact guard45; exact HXO.out.ha; exact HQ.out.ha; simp only [DE.out]; simp only [Act.put, List.setIfInBounds_toArray, List.set_cons_zero, List.set_cons_succ])
            | ((with_reducible apply W_loadAll (dst := 44)); rfl; exact M.r0; exact Salg.underlying128; rfl; (rw [size128]; simp [hxl]); simp only [Act.put, List.setIfInBounds_toArray, List.set_cons_zero, List.set_cons_succ])
            | ((with_reducible apply W_buildOne (d := 45) M); rfl; exact Salg.underlying108; exact size128; exact zero128s; (simp [hxl]); decide; decide; clear M; intro bn w6 hbn hbnN K6 M; replace OWN := hid (own_kept OWN.out K6); replace hBw := Nat.le_trans hBw K6.size; clear K6; simp only [Act.put, List.setIfInBounds_toArray, List.set_cons_zero, List.set_cons_succ])
            | ((with_reducible apply W_appendOne (d := 46) (base := w2.heap.size) (n := (out).length) M.tail.tail info128 Salg.underlying108); kernel_rfl; decide; decide; rfl; rfl; exact OWN.out; (first | omega | (simp only [List.length_append, List.length_cons, List.length_nil]; omega)); exact M.r0; (simp [hxl]); (simpa using HXO.out.one); exact Nat.le_of_lt (Nat.lt_of_le_of_lt hc1 hc1B); exact hBw; exact (by intro p hp e; have hb := own_block OWN.out e; simp only [List.mem_cons, List.not_mem_nil, or_false] at hp; rcases hp with rfl | rfl; (have := hb.1; omega); (have := hb.1; omega)); clear M; intro lv' w7 M hown' hBw'; replace OWN : Hid (w7.ownsRow w2.heap.size 128 24 lv' (out ++ [x]).length (acsL (out ++ [x]))) := (by rw [acsL_snoc, List.length_append]; exact hown'); clear hown' hBw; have hBw := hBw'; clear hBw'; simp only [Act.put, List.setIfInBounds_toArray, List.set_cons_zero, List.set_cons_succ]))
          go_roundw
          case rel => exact ⟨i + 1, true, out ++ [x], by omega, by go_num, rfl, by first | omega | (simp; omega), by simpa using HPU.out, (by intro p hp; simp only [List.mem_append, List.mem_singleton] at hp; rcases hp with hp | rfl; exact HOK.out p hp; exact HXO.out), OWN.out, hBw, M⟩
          case measure => simp [intOf]; omega
    · have hin : i = n := by omega
      subst hin
      have h0s : 0 < cs.size := by
        rcases Nat.lt_or_ge 0 cs.size with h | h
        · exact h
        · rw [Array.getElem?_eq_none h] at h0; cases h0
      have HDN : Hid (l.drop i = []) := List.drop_of_length_le (by rw [HN.out]; exact Nat.le_refl _)
      rw [HDN.out, acPut] at HPU
      generalize hlv : u4 = lv at *
      cases t
      · simp only [Bool.false_eq_true, if_false] at HPU
        go_wp2_with (first
          | ((with_reducible apply W_loadAll (dst := 51)); rfl; exact M.r0; exact Salg.underlying128; rfl; (rw [size128]; simp [hcl]); simp only [Act.put, List.setIfInBounds_toArray, List.set_cons_zero, List.set_cons_succ])
          | ((with_reducible apply W_buildOne (d := 52) M); rfl; exact Salg.underlying108; exact size128; exact zero128s; (simp [hcl]); decide; decide; clear M; intro bn w6 hbn hbnN K6 M; replace OWN := hid (own_kept OWN.out K6); replace hBw := Nat.le_trans hBw K6.size; clear K6; simp only [Act.put, List.setIfInBounds_toArray, List.set_cons_zero, List.set_cons_succ])
          | ((with_reducible apply W_appendOne (d := 53) (base := w2.heap.size) (n := (out).length) M.tail info128 Salg.underlying108); kernel_rfl; decide; decide; rfl; rfl; exact OWN.out; (first | omega | (simp only [List.length_append, List.length_cons, List.length_nil]; omega)); exact M.r0; (simp [hcl]); (simpa using HQ.out.one); exact Nat.le_of_lt (Nat.lt_of_le_of_lt hc1 hc1B); exact hBw; exact (by intro p hp e; have hb := own_block OWN.out e; simp only [List.mem_cons, List.not_mem_nil, or_false] at hp; rcases hp with rfl | rfl; (have := hb.1; omega); (have := hb.1; omega)); clear M; intro lv' w7 M hown' hBw'; replace OWN : Hid (w7.ownsRow w2.heap.size 128 24 lv' (out ++ [q]).length (acsL (out ++ [q]))) := (by rw [acsL_snoc, List.length_append]; exact hown'); clear hown' hBw; have hBw := hBw'; clear hBw'; simp only [Act.put, List.setIfInBounds_toArray, List.set_cons_zero, List.set_cons_succ])
          | ((with_reducible apply W_stV (b := c) (o := 0)); rfl; rfl; (rcases OWN.out.2 with ⟨rfl, _⟩ | ⟨g', c', cur', rfl, _⟩ <;> rfl); exact M.r1; exact size108; exact h0s; intro w8 K hr8))
        go_end0
        refine ⟨_, lv', rfl, (M.kept.trans (K.mono (by simp))), hr8, ?_⟩
        have hb := fun g hg => (own_block OWN.out (g := g) hg).1
        have OW2 := own_keptX OWN.out K (by intro g hg; have := hb g hg; simp; omega)
        exact ⟨by rw [← HPU.out]; exact own_mono OW2 (Nat.zero_le _), acPut_ok HQ.out false l HV.out.ok, by rw [← HPU.out]; simp; omega⟩
      · simp only [if_true, List.append_nil] at HPU
        go_wp2_with ((with_reducible apply W_stV (b := c) (o := 0)); rfl; rfl; (rcases OWN.out.2 with ⟨rfl, _⟩ | ⟨g', c', cur', rfl, _⟩ <;> rfl); exact M.r1; exact size108; exact h0s; intro w8 K hr8)
        go_end0
        refine ⟨_, lv, rfl, (M.kept.trans (K.mono (by simp))), hr8, ?_⟩
        have hb := fun g hg => (own_block OWN.out (g := g) hg).1
        have OW2 := own_keptX OWN.out K (by intro g hg; have := hb g hg; simp; omega)
        exact ⟨by rw [← HPU.out]; exact own_mono OW2 (Nat.zero_le _), acPut_ok HQ.out false l HV.out.ok, by rw [← HPU.out]; omega⟩
end Go.Proofs.YgcsalGreat

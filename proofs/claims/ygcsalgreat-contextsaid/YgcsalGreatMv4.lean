/-
  Accounts in a row; the walk of (*yp.World).account.
-/
import Derived.Test.YgcsalGreatMv3
import Derived.Laws.AppendOwn
set_option linter.unusedSimpArgs false
set_option linter.unusedVariables false
namespace Go.Own
/-- An account: its address and its four slices (nonce, balance, code, slots). -/
structure Ac where
  adr : List Nat
  rest : List Value
def Ac.cells (p : Ac) : List Value := p.adr.map n8 ++ p.rest
structure Ac.Ok (p : Ac) : Prop where
  ha : p.adr.length = 20
  hr : p.rest.length = 4
  h1 : ∀ u ∈ p.rest, u.oneCell' = true
  hs : Small p.adr
theorem Ac.Ok.len {p : Ac} (h : p.Ok) : p.cells.length = 24 := by simp [Ac.cells, h.ha, h.hr]
theorem Ac.Ok.one {p : Ac} (h : p.Ok) : ∀ u ∈ p.cells, u.oneCell' = true := by
  intro u hu
  simp only [Ac.cells, List.mem_append, List.mem_map] at hu
  rcases hu with ⟨x, _, rfl⟩ | hu
  · rfl
  · exact h.h1 u hu
def acsL (l : List Ac) : List Value := l.flatMap Ac.cells
theorem acsL_len : ∀ {l : List Ac}, (∀ p ∈ l, p.Ok) → (acsL l).length = l.length * 24
  | [], _ => rfl
  | p :: l, h => by
    have := acsL_len (l := l) fun q hq => h q (by simp [hq])
    simp only [acsL, List.flatMap_cons, List.length_append, List.length_cons] at this ⊢
    rw [(h p (by simp)).len, this]
    omega
theorem acsL_at : ∀ {l : List Ac}, (∀ p ∈ l, p.Ok) → ∀ {i : Nat} (hi : i < l.length), ((acsL l).drop (i * 24)).take 24 = l[i].cells
  | [], _, i, hi => by simp at hi
  | p :: l, h, 0, _ => by
    have := (h p (by simp)).len
    simp only [acsL, List.flatMap_cons, Nat.zero_mul, List.drop_zero, List.getElem_cons_zero]
    rw [List.take_append_of_le_length (by omega), List.take_of_length_le (by omega)]
  | p :: l, h, i + 1, hi => by
    have hl := (h p (by simp)).len
    simp only [acsL, List.flatMap_cons, List.getElem_cons_succ]
    rw [List.drop_append, List.drop_of_length_le (by omega), List.nil_append, show (i + 1) * 24 - p.cells.length = i * 24 by omega]
    exact acsL_at (fun q hq => h q (by simp [hq])) (by simpa using hi)
/-- The account of an address, zeros if it is not listed. -/
def acFind (l : List Ac) (a : List Nat) : Ac := (l.find? fun p => p.adr == a).getD ⟨a, [nilS, nilS, nilS, nilS]⟩
structure AcsV (w : World) (v : Value) (l : List Ac) : Prop where
  own : w.ownsRow 0 128 24 v l.length (acsL l)
  ok : ∀ p ∈ l, p.Ok
  len : l.length ≤ 1000
theorem AcsV.kept {w w' : World} {v : Value} {l : List Ac} (h : AcsV w v l) (k : Kept [] w w') : AcsV w' v l := by
  refine ⟨⟨h.own.1, ?_⟩, h.ok, h.len⟩
  rcases h.own.2 with h1 | ⟨g, cap, cur, h1, h2, h3, h4⟩
  · exact .inl h1
  · exact .inr ⟨g, cap, cur, h1, h2, k.row h3 (by simp), h4⟩
theorem AcsV.at {w : World} {v : Value} {l : List Ac} (h : AcsV w v l) {i : Nat} (hi : i < l.length) : ∃ g cap cur, v = .slice (some ⟨g, 0, none⟩) l.length cap ∧ w.heap[g]? = some (.cells cur 128 (0, 0)) ∧ i * 24 + 24 ≤ cur.size ∧ cur.extract (i * 24) (i * 24 + 24) = l[i].cells.toArray := by
  rcases h.own.2 with ⟨_, h1⟩ | ⟨g, cap, cur, h1, h2, h3, h4, h5, h6, h7⟩
  · omega
  · refine ⟨g, cap, cur, h1, h3, ?_, ?_⟩
    · rw [h6]
      have : i + 1 ≤ cap := by omega
      have := Nat.mul_le_mul_right 24 this
      omega
    · have e := acsL_at h.ok hi
      rw [← h7, List.drop_take] at e
      rw [← e]
      apply Array.ext'
      simp only [Array.toList_extract, List.extract_eq_take_drop, List.take_take]
      congr 1
      have : (i + 1) * 24 ≤ l.length * 24 := Nat.mul_le_mul_right 24 (by omega)
      omega
theorem cells_addr {p : Ac} (h : p.Ok) : p.cells.toArray.extract 0 (0 + 20) = (p.adr.map n8).toArray := by
  apply Array.ext'
  simp only [Array.toList_extract, List.extract_eq_take_drop, Ac.cells, List.drop_zero]
  rw [List.take_append_of_le_length (by simp [h.ha]), List.take_of_length_le (by simp [h.ha])]
theorem fold_fill : ∀ (l : List Value) (k : Nat) (Z : Array Value), k + l.length ≤ Z.size → (List.foldl (fun (cs : Array Value) (x : Value × Nat) => cs.setIfInBounds x.snd x.fst) Z (l.zipIdx k)).toList = Z.toList.take k ++ l ++ Z.toList.drop (k + l.length)
  | [], k, Z, h => by simp
  | v :: l, k, Z, h => by
    simp only [List.length_cons] at h
    rw [List.zipIdx_cons, List.foldl_cons, fold_fill l (k + 1) _ (by simp; omega)]
    simp only [Array.toList_setIfInBounds, List.length_cons]
    rw [List.take_set, List.take_succ_eq_append_getElem (by simpa using by omega), List.set_append_right _ _ (by simp; omega), List.drop_set_of_lt (by omega), show k + 1 + l.length = k + (l.length + 1) by omega]
    simp [List.length_take, Nat.min_eq_left (show k ≤ Z.size by omega)]
theorem fold_fill0 {l : List Value} {Z : List Value} (h : l.length ≤ Z.length) : List.foldl (fun (cs : Array Value) (x : Value × Nat) => cs.setIfInBounds x.snd x.fst) Z.toArray l.zipIdx = (l ++ Z.drop l.length).toArray := by
  apply Array.ext'
  rw [fold_fill l 0 Z.toArray (by simpa using h)]
  simp
theorem acFind_hit {l : List Ac} {a : List Nat} {i : Nat} (hi : i < l.length) (h : ∀ j (hj : j < i), l[j].adr ≠ a) (he : l[i].adr = a) : acFind l a = l[i] := by
  unfold acFind
  have : l.find? (fun p => p.adr == a) = some l[i] := by
    rw [List.find?_eq_some_iff_getElem]
    refine ⟨by simpa using he, i, hi, rfl, fun j hj => ?_⟩
    simpa using h j hj
  rw [this]
  rfl
theorem acFind_miss {l : List Ac} {a : List Nat} (h : ∀ j (hj : j < l.length), l[j].adr ≠ a) : acFind l a = ⟨a, [nilS, nilS, nilS, nilS]⟩ := by
  unfold acFind
  have : l.find? (fun p => p.adr == a) = none := by
    rw [List.find?_eq_none]
    intro p hp
    obtain ⟨j, hj, rfl⟩ := List.getElem_of_mem hp
    simpa using h j hj
  rw [this]
  rfl
end Go.Own
namespace Go.Proofs.YgcsalGreat
open Go.RowKit Go.Own
theorem size128 : (Salg.prog.info? 128).map (·.size) = some 24 := by kernel_rfl
theorem zero128 : ((Salg.prog.info? 128).bind (·.zero)) = some (.agg (z8 20 ++ [nilS, nilS, nilS, nilS]).toArray) := by kernel_rfl
theorem guard45 : Salg.prog.eqGuardType Salg.prog.depth 45 = false := by kernel_rfl

set_option maxHeartbeats 2000000 in
set_option maxRecDepth 100000 in
theorem account_any (c tc : Nat) (cs : Array Value) (va : Value) (l : List Ac) (a : List Nat) (w : World) (hr : w.heap[c]? = some (.cells cs tc (0, 0))) (h0 : cs[0]? = some va) (hv : AcsV w va l) (ha : a.length = 20) :
    Calls Salg.prog 85 #[.pointer (some ⟨c, 0, none⟩), A8 a] w fun e w' => e = .returned (.agg (acFind l a).cells.toArray) ∧ Kept [] w w' := by
  have M := Mem.start w []
  have hlen := hv.len
  have HV := hid hv
  clear hv
  obtain ⟨p, n, cap, rfl, hn⟩ : ∃ p n cap, va = .slice p n cap ∧ n = l.length := by
    rcases HV.out.own.2 with ⟨h1, h2⟩ | ⟨g, cap, cur, h1, _⟩
    · exact ⟨none, 0, 0, h1, h2.symm⟩
    · exact ⟨_, _, _, h1, rfl⟩
  have HN := hid hn
  have hn1 : n ≤ 1000 := by omega
  clear hn hlen
  go_enter Salg.func85, Salg.ntmps85
  go_wp2_with (first
    | ((with_reducible apply L_box (d := 3) M); rfl; clear M; intro c1 w1 hc1 M; simp only [Act.put, List.setIfInBounds_toArray, List.set_cons_zero, List.set_cons_succ])
    | ((with_reducible apply L_allocA (d := 4) M); exact zero128; clear M; intro c2 w1 hc2 M; simp only [Act.put, List.setIfInBounds_toArray, List.set_cons_zero, List.set_cons_succ])
    | ((with_reducible apply W_loadCell); rfl; exact M.kept.row hr (by simp); exact h0; exact Salg.underlying108; rfl; simp only [Act.put, List.setIfInBounds_toArray, List.set_cons_zero, List.set_cons_succ]))
  go_loopw [12] (fun iv wr => ∃ i : Nat, i ≤ n ∧ iv = .int .i64 i ∧ (∀ j (hj : j < i) (hl : j < l.length), l[j].adr ≠ a) ∧ Mem w [] [(c2, .cells (z8 20 ++ [nilS, nilS, nilS, nilS]).toArray 128 (0, 0)), (c1, R8 45 a)] wr) (fun iv _ => (n - intOf iv).toNat)
  case atStart => exact ⟨0, by omega, rfl, fun j hj => by omega, M⟩
  case round =>
    clear M
    obtain ⟨i, hi, rfl, hno, M⟩ := hrel
    have HNO := hid hno
    clear hno
    rcases Nat.lt_or_ge i n with hlt | hge
    · have hil : i < l.length := by rw [← HN.out]; exact hlt
      obtain ⟨g, cap', cur, hpe, hrg, hsz, hex⟩ := HV.out.at hil
      cases hpe
      have hok := HV.out.ok l[i] (List.getElem_mem hil)
      have HOK := hid hok
      have hcl := hok.len
      have HEX := hid hex
      have HAD := hid (cells_addr hok)
      have h20 := hok.ha
      have HHIT := hid (acFind_hit (l := l) (a := a) hil (fun j hj => HNO.out j hj (by omega)))
      have HNE : Hid (l[i].adr ≠ a → ∀ j (hj : j < i + 1) (hl : j < l.length), l[j].adr ≠ a) := by
        intro hne j hj hl
        by_cases hji : j = i
        · subst hji; exact hne
        · exact HNO.out j (by omega) hl
      clear hok hex HNO
      generalize l[i] = q at *
      by_cases hq : q.adr = a
      · have HQ := hid (HHIT.out hq)
        have DQ : Hid (decide (q.adr = a) = true) := decide_eq_true hq
        clear HHIT HNE hq
        go_wp2_with (first
          | ((with_reducible apply W_load (n := 24) (o := i * 24)); rfl; exact M.kept.row hrg (by simp); exact Salg.underlying128; rfl; exact size128; exact hsz; rw [HEX.out]; simp only [Act.put, List.setIfInBounds_toArray, List.set_cons_zero, List.set_cons_succ])
          | ((with_reducible apply L_allocA (d := 6) M); exact zero128; clear M; intro c3 w1 hc3 M; simp only [Act.put, List.setIfInBounds_toArray, List.set_cons_zero, List.set_cons_succ])
          | ((with_reducible apply W_storeK (b := c3) (vs := q.cells.toArray)); rfl; rfl; exact M.r0; exact size128; (simp [hcl, z8]); (simpa using HOK.out.one); intro w3 K hr3; replace M := Mem.callPut (L1 := []) M (Or.inr (by assumption)) K hr3; clear K hr3; simp only [List.cons_append, List.nil_append] at M)
          | ((with_reducible apply W_load (n := 20) (o := 0)); rfl; exact M.r0; exact Salg.underlying45; rfl; exact size45; (simp [hcl]); rw [HAD.out]; simp only [Act.put, List.setIfInBounds_toArray, List.set_cons_zero, List.set_cons_succ])
          | ((with_reducible apply W_loadAll); rfl; (first | with_reducible exact M.r0 | with_reducible exact M.r1 | with_reducible exact M.r2 | with_reducible exact M.r3 | with_reducible exact M.r4 | with_reducible exact M.r5 | with_reducible exact M.r6 | assumption | exact M.kept.row (by assumption) (by simp)); exact Salg.underlying45; rfl; (first | with_reducible exact size45 | (rw [size45]; simp [ha])); simp only [Act.put, List.setIfInBounds_toArray, List.set_cons_zero, List.set_cons_succ])
          | ((with_reducible apply W_eql8); rfl; rfl; exact Salg.underlying45; exact Salg.underlying5; exact size5; exact guard45; exact h20; exact ha; rw [DQ.out]; simp only [Act.put, List.setIfInBounds_toArray, List.set_cons_zero, List.set_cons_succ])
          | ((with_reducible apply W_loadAll); rfl; exact M.r0; exact Salg.underlying128; rfl; (rw [size128]; simp [hcl]); simp only [Act.put, List.setIfInBounds_toArray, List.set_cons_zero, List.set_cons_succ])
          | ((with_reducible apply W_storeK (b := c2) (vs := q.cells.toArray)); rfl; rfl; exact M.r1; exact size128; (simp [hcl, z8]); (simpa using HOK.out.one); intro w3 K hr3; replace M := Mem.callPut (L1 := [_]) M (Or.inr (by assumption)) K hr3; clear K hr3; simp only [List.cons_append, List.nil_append] at M))
        exact ret_cell1 Salg.results85 rfl M.r1 Salg.underlying128 rfl (by rw [size128]; simp [hcl]) rfl ⟨by rw [HQ.out], M.kept⟩
      · have DQ : Hid (decide (q.adr = a) = false) := decide_eq_false hq
        have HNE2 := hid (HNE.out hq)
        clear HHIT HNE hq
        go_wp2_with (first
          | ((with_reducible apply W_load (n := 24) (o := i * 24)); rfl; exact M.kept.row hrg (by simp); exact Salg.underlying128; rfl; exact size128; exact hsz; rw [HEX.out]; simp only [Act.put, List.setIfInBounds_toArray, List.set_cons_zero, List.set_cons_succ])
          | ((with_reducible apply L_allocA (d := 6) M); exact zero128; clear M; intro c3 w1 hc3 M; simp only [Act.put, List.setIfInBounds_toArray, List.set_cons_zero, List.set_cons_succ])
          | ((with_reducible apply W_storeK (b := c3) (vs := q.cells.toArray)); rfl; rfl; exact M.r0; exact size128; (simp [hcl, z8]); (simpa using HOK.out.one); intro w3 K hr3; replace M := Mem.callPut (L1 := []) M (Or.inr (by assumption)) K hr3; clear K hr3; simp only [List.cons_append, List.nil_append] at M)
          | ((with_reducible apply W_load (n := 20) (o := 0)); rfl; exact M.r0; exact Salg.underlying45; rfl; exact size45; (simp [hcl]); rw [HAD.out]; simp only [Act.put, List.setIfInBounds_toArray, List.set_cons_zero, List.set_cons_succ])
          | ((with_reducible apply W_loadAll); rfl; (first | with_reducible exact M.r0 | with_reducible exact M.r1 | with_reducible exact M.r2 | with_reducible exact M.r3 | with_reducible exact M.r4 | with_reducible exact M.r5 | with_reducible exact M.r6 | assumption | exact M.kept.row (by assumption) (by simp)); exact Salg.underlying45; rfl; (first | with_reducible exact size45 | (rw [size45]; simp [ha])); simp only [Act.put, List.setIfInBounds_toArray, List.set_cons_zero, List.set_cons_succ])
          | ((with_reducible apply W_eql8); rfl; rfl; exact Salg.underlying45; exact Salg.underlying5; exact size5; exact guard45; exact h20; exact ha; rw [DQ.out]; simp only [Act.put, List.setIfInBounds_toArray, List.set_cons_zero, List.set_cons_succ])
          | ((with_reducible apply W_loadAll); rfl; exact M.r0; exact Salg.underlying128; rfl; (rw [size128]; simp [hcl]); simp only [Act.put, List.setIfInBounds_toArray, List.set_cons_zero, List.set_cons_succ])
          | ((with_reducible apply W_storeK (b := c2) (vs := q.cells.toArray)); rfl; rfl; exact M.r1; exact size128; (simp [hcl, z8]); (simpa using HOK.out.one); intro w3 K hr3; replace M := Mem.callPut (L1 := [_]) M (Or.inr (by assumption)) K hr3; clear K hr3; simp only [List.cons_append, List.nil_append] at M))
        replace M := M.tail
        go_roundw
        case rel => exact ⟨i + 1, by omega, by go_num, HNE2.out, M⟩
        case measure => simp [intOf]; omega
    · have hin : i = n := by omega
      subst hin
      have HM : Hid (acFind l a = ⟨a, [nilS, nilS, nilS, nilS]⟩) := acFind_miss (fun j hj => HNO.out j (by rw [HN.out]; exact hj) hj)
      clear HNO
      go_wp2_with (first
        | ((with_reducible apply W_loadAll); rfl; (first | with_reducible exact M.r0 | with_reducible exact M.r1 | with_reducible exact M.r2 | with_reducible exact M.r3 | with_reducible exact M.r4 | with_reducible exact M.r5 | with_reducible exact M.r6 | assumption | exact M.kept.row (by assumption) (by simp)); exact Salg.underlying45; rfl; (first | with_reducible exact size45 | (rw [size45]; simp [ha])); simp only [Act.put, List.setIfInBounds_toArray, List.set_cons_zero, List.set_cons_succ])
        | ((with_reducible apply W_storeK (b := c2) (vs := (Ac.mk a [nilS, nilS, nilS, nilS]).cells.toArray)); rfl; (refine congrArg Value.agg ((fold_fill0 (Z := [n8 0, n8 0, n8 0, n8 0, n8 0, n8 0, n8 0, n8 0, n8 0, n8 0, n8 0, n8 0, n8 0, n8 0, n8 0, n8 0, n8 0, n8 0, n8 0, n8 0, nilS, nilS, nilS, nilS]) (by simp [ha])).trans ?_); simp [Ac.cells, ha]); exact M.r0; exact size128; (simp [Ac.cells, ha, z8]); (intro u hu; simp [Ac.cells] at hu; rcases hu with ⟨x, _, rfl⟩ | rfl <;> rfl); intro w3 K hr3; replace M := Mem.callPut (L1 := []) M (Or.inr (by assumption)) K hr3; clear K hr3; simp only [List.cons_append, List.nil_append] at M))
      exact ret_cell1 Salg.results85 rfl M.r0 Salg.underlying128 rfl (by rw [size128]; simp [Ac.cells, ha]) rfl ⟨by rw [HM.out], M.kept⟩
end Go.Proofs.YgcsalGreat

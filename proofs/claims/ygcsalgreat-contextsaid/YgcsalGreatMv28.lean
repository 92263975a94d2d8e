/-
  The chain's row; laws of parts of a row; the walk of yp.New on the stage's world.
-/
import Derived.Test.YgcsalGreatMv27
set_option linter.unusedSimpArgs false
set_option linter.unusedVariables false
namespace Go.Own
section
variable {P : Program} {ops : Array Oper} {Q : Exit → Act → World → Prop} {rest : List Oper} {a : Act} {w w0 : World} {X : List Nat} {L : List (Nat × Obj)}
/-- A store of a value of several cells somewhere in a row. -/
theorem W_stP {b o n : Nat} {cs rs : Array Value} {v : Value} {t : TypeId} {x y : Operand} {ty ty' : TypeId} {pos : String} {after : Array Edge}
    (hx : a.eval x = .pointer (some ⟨b, o, none⟩)) (hy : a.eval y = v) (hr : w.heap[b]? = some (.cells cs t (0, 0))) (hi : (P.info? ty).map (·.size) = some n) (hn : v.cells.size = n) (h1 : ∀ u ∈ v.cells.toList, u.oneCell' = true) (hle : o + n ≤ cs.size) (hrs : splice cs o v.cells.toList = rs)
    (k : ∀ w', Kept [b] w w' → w'.heap[b]? = some (.cells rs t (0, 0)) → wpList P ops Q rest a w') :
    wpList P ops Q ({ dst := none, op := .store ty x y, type := ty', pos := pos, after := after, guard := none } :: rest) a w := by
  obtain ⟨g1, g2⟩ := kept_put (lt_of_row hr) (.cells (splice cs o v.cells.toList) t (0, 0)) hr
  have hrun := run_store (dst := none) (ty' := ty') (pos := pos) (after := after) (g := none) hr hx hy hi hn h1 hle
  rw [hrs] at g1 g2 hrun
  exact wpList_plain rfl fun K hK => by unfold Oper.wp; rw [hrun]; exact hK _ _ (k _ g1 g2)
theorem run_loadX {b o n : Nat} {cs vs : Array Value} {t : TypeId} {fr : Nat × Nat} {dst : Option Tmp} {x : Operand} {ty ty' : TypeId} {pos : String} {after : Array Edge} {g : Option (Nat × Bool)} {d : TypeDesc}
    (h : w.heap[b]? = some (.cells cs t fr)) (hx : a.eval x = .pointer (some ⟨b, o, none⟩)) (hu : P.underlying ty = some d) (hd : d.isRow = true) (hi : (P.info? ty).map (·.size) = some n) (hle : o + n ≤ cs.size) (hex : cs.extract o (o + n) = vs) :
    (execOp a.eval { dst := dst, op := .load ty x, type := ty', pos := pos, after := after, guard := g }).run P w = .ok (.value (.agg vs)) w := by
  rw [run_load h hx hu hd hi hle, hex]
theorem W_loadX {b o n : Nat} {cs vs : Array Value} {t : TypeId} {fr : Nat × Nat} {dst : Tmp} {x : Operand} {ty ty' : TypeId} {pos : String} {after : Array Edge} {d : TypeDesc}
    (hx : a.eval x = .pointer (some ⟨b, o, none⟩)) (h : w.heap[b]? = some (.cells cs t fr)) (hu : P.underlying ty = some d) (hd : d.isRow = true) (hi : (P.info? ty).map (·.size) = some n) (hle : o + n ≤ cs.size) (hex : cs.extract o (o + n) = vs)
    (k : wpList P ops Q rest (a.put (some dst) (.agg vs)) w) :
    wpList P ops Q ({ dst := some dst, op := .load ty x, type := ty', pos := pos, after := after, guard := none } :: rest) a w := L_run rfl (run_loadX h hx hu hd hi hle hex) k
end
theorem extract_list {cs : Array Value} {o n : Nat} {l : List Value} (hl : l.length = n) (hsz : o + n ≤ cs.size) (h : ∀ k, k < n → cs[o + k]? = l[k]?) : cs.extract o (o + n) = l.toArray := by
  apply Array.ext_getElem?
  intro k
  rcases Nat.lt_or_ge k n with hk | hk
  · rw [Array.getElem?_extract, if_pos (by omega), h k hk, List.getElem?_toArray]
  · rw [Array.getElem?_extract, if_neg (by omega), List.getElem?_toArray, List.getElem?_eq_none (by omega)]
theorem own_nb {w : World} {base e s n k : Nat} {v : Value} {xs : List Value} {p : Option Addr} {a b : Nat} (h : w.ownsRow base e s v n xs) (hk : xs[k]? = some (.slice p a b)) : v.ownBlock = none ∨ ∃ g cur, v.ownBlock = some g ∧ w.heap[g]? = some (.cells cur e (0, 0)) ∧ ∀ t l, Obj.cells cur e (0, 0) ≠ R8 t l := by
  rcases h.2 with ⟨rfl, h1⟩ | ⟨g, cap, cur, rfl, h2, h3, h4, h5, h6, h7⟩
  · exact .inl rfl
  · refine .inr ⟨g, cur, rfl, h3, not_bytes_at (i := k) (p := p) (n := a) (m := b) ?_⟩
    rw [← h7, List.getElem?_take] at hk
    split at hk
    · simpa using hk
    · cases hk
theorem NatV.keptO {w w' : World} {x : Value} {ds : List Nat} {base e s n k : Nat} {v : Value} {xs : List Value} {p : Option Addr} {a b : Nat} (h : NatV w x ds) (K : Kept v.ownBlock.toList w w') (hO : w.ownsRow base e s v n xs) (hk : xs[k]? = some (.slice p a b)) : NatV w' x ds := by
  rcases own_nb hO hk with h1 | ⟨g, cur, h1, h2, h3⟩
  · rw [h1] at K
    exact h.kept K
  · rw [h1] at K
    exact h.keptC K h2 h3
theorem NumV.keptO {w w' : World} {x : Value} {m : Nat} {base e s n k : Nat} {v : Value} {xs : List Value} {p : Option Addr} {a b : Nat} (h : NumV w x m) (K : Kept v.ownBlock.toList w w') (hO : w.ownsRow base e s v n xs) (hk : xs[k]? = some (.slice p a b)) : NumV w' x m := by
  obtain ⟨ds, h1, h2⟩ := h
  exact ⟨ds, h1.keptO K hO hk, h2⟩
theorem apart2 {b c : Nat} {v : Value} {o o' : Obj} (h : v.ownBlock ≠ some b) (h' : v.ownBlock ≠ some c) : ∀ p ∈ [(b, o), (c, o')], v.ownBlock ≠ some p.1 := by
  intro p hp
  simp at hp
  rcases hp with rfl | rfl
  · exact h
  · exact h'
theorem own_old {w : World} {base e s n c : Nat} {v : Value} {xs : List Value} (h : w.ownsRow base e s v n xs) (hc : c < base) : v.ownBlock ≠ some c := by
  intro e
  have := (own_block h e).1
  omega
def z20 : List Nat := List.replicate 20 0
/-- A chain's row: the nineteen first cells, the sender, the made address, the stage's block. -/
def chL (h : List Value) (o m : List Nat) : List Value := h ++ (o.map n8 ++ (m.map n8 ++ envL))
def h0L (va tv : Value) : List Value := [va, nilS, nilS, nilS, nilS, nilS, nilS, nilS, nilS, nilS, nilS, .int .u8 0, .int .u8 0, .int .u8 0, nilS, nilS, nilS, nilS, tv]
def ch0 (va tv : Value) : Array Value := (chL (h0L va tv) z20 z20).toArray
theorem ch0_size (va tv : Value) : (ch0 va tv).size = 179 := by kernel_rfl
theorem ch0_0 (va tv : Value) : (ch0 va tv)[0]? = some va := by kernel_rfl
theorem ch0_18 (va tv : Value) : (ch0 va tv)[18]? = some tv := by kernel_rfl
theorem ch0_s0 (va tv v : Value) : (ch0 va tv).setIfInBounds 0 v = ch0 v tv := by kernel_rfl
theorem ch0_s18 (va tv v : Value) : (ch0 va tv).setIfInBounds 18 v = ch0 va v := by kernel_rfl
theorem ch0_s178 (va tv : Value) : (ch0 va tv).setIfInBounds 178 nilS = ch0 va tv := by kernel_rfl
theorem ch0_nb (va tv : Value) : ∀ t l, Obj.cells (ch0 va tv) 119 (0, 0) ≠ R8 t l := not_bytes_at (i := 1) (p := none) (n := 0) (m := 0) (by kernel_rfl)
def zch : List Value := List.replicate 11 nilS ++ (List.replicate 3 (.int .u8 0) ++ (List.replicate 5 nilS ++ (z8 40 ++ (z8 20 ++ ([n64 0, n64 0, n64 0] ++ (z8 96 ++ [nilS]))))))
theorem zch_env : splice zch.toArray 59 envL = ch0 nilS nilS := by kernel_rfl
def acA (nv bv cu : Value) : Ac := ⟨ad 1, [nv, bv, cu, nilS]⟩
def acB (nv bv : Value) : Ac := ⟨ad 240, [nv, bv, nilS, nilS]⟩
theorem be_balB : be balB = 340282366920938463463374607431768211456 := by kernel_rfl
theorem be_zero32 : be (List.replicate 32 0) = 0 := by kernel_rfl
theorem small32 : Small (List.replicate 32 0) := by intro x hx; rw [List.mem_replicate] at hx; omega
theorem smallB : Small balB := oaB_ok.hbs
theorem oaA_x (u : Value) : (oaA u).cells.toArray.extract 0 (0 + 20) = ((ad 1).map n8).toArray := by kernel_rfl
theorem oaB_x : oaB.cells.toArray.extract 0 (0 + 20) = ((ad 240).map n8).toArray := by kernel_rfl
theorem oaA_bal (u : Value) : ∀ (i x : Nat), (List.replicate 32 0)[i]? = some x → (oaA u).cells.toArray[21 + i]? = some (n8 x) := by
  intro i x hx
  rw [List.getElem?_toArray]
  have hlt : i < 32 := by simpa using (List.getElem?_eq_some_iff.1 hx).1
  rw [oaA, Oa.cells, List.getElem?_append_right (by simp [ad]; omega)]
  simp only [List.length_map, ad, List.length_cons, List.length_nil, List.singleton_append, show 21 + i - (0 + 1 + 1 + 1 + 1 + 1 + 1 + 1 + 1 + 1 + 1 + 1 + 1 + 1 + 1 + 1 + 1 + 1 + 1 + 1 + 1) = i + 1 by omega, List.getElem?_cons_succ]
  rw [List.getElem?_append_left (by simpa using hlt), List.getElem?_map, hx]
  rfl
theorem oaB_bal : ∀ (i x : Nat), balB[i]? = some x → oaB.cells.toArray[21 + i]? = some (n8 x) := by
  intro i x hx
  rw [List.getElem?_toArray]
  have hlt : i < balB.length := (List.getElem?_eq_some_iff.1 hx).1
  rw [oaB, Oa.cells, List.getElem?_append_right (by simp [ad]; omega)]
  simp only [List.length_map, ad, List.length_cons, List.length_nil, List.singleton_append, show 21 + i - (0 + 1 + 1 + 1 + 1 + 1 + 1 + 1 + 1 + 1 + 1 + 1 + 1 + 1 + 1 + 1 + 1 + 1 + 1 + 1 + 1) = i + 1 by omega, List.getElem?_cons_succ]
  rw [List.getElem?_append_left (by simpa using hlt), List.getElem?_map, hx]
  rfl
theorem ac_one {nv bv cu : Value} (h1 : nv.oneCell' = true) (h2 : bv.oneCell' = true) (h3 : cu.oneCell' = true) : (∀ x ∈ (acA nv bv cu).cells, x.oneCell' = true) ∧ ∀ x ∈ (acB nv bv).cells, x.oneCell' = true := by
  constructor
  · have : ((acA nv bv cu).cells.all fun u => u.oneCell') = true := by
      have e : ((acA nv bv cu).cells.all fun u => u.oneCell') = (nv.oneCell' && (bv.oneCell' && (cu.oneCell' && true))) := by kernel_rfl
      rw [e, h1, h2, h3]; rfl
    exact one_list this
  · have : ((acB nv bv).cells.all fun u => u.oneCell') = true := by
      have e : ((acB nv bv).cells.all fun u => u.oneCell') = (nv.oneCell' && (bv.oneCell' && true)) := by kernel_rfl
      rw [e, h1, h2]; rfl
    exact one_list this
theorem NatV.slice {w : World} {v : Value} {ds : List Nat} (h : NatV w v ds) : ∃ p n c, v = .slice p n c := by obtain ⟨p, c, rfl, _⟩ := h; exact ⟨_, _, _, rfl⟩
theorem NumV.slice {w : World} {v : Value} {n : Nat} (h : NumV w v n) : ∃ p n c, v = .slice p n c := by obtain ⟨ds, h1, _⟩ := h; exact h1.slice
theorem NatV.one {w : World} {v : Value} {ds : List Nat} (h : NatV w v ds) : v.oneCell' = true := by obtain ⟨p, c, rfl, _⟩ := h; rfl
theorem oneT {l : List Value} (h : ∀ x ∈ l, x.oneCell' = true) : ∀ u ∈ l.toArray.toList, u.oneCell' = true := by intro u hu; exact h u (by simpa using hu)
theorem oaA_oneT {u : Value} (h : u.oneCell' = true) : ∀ x ∈ (oaA u).cells.toArray.toList, x.oneCell' = true := oneT (oaA_one h)
theorem own_one {w : World} {base e s n : Nat} {v : Value} {xs : List Value} (h : w.ownsRow base e s v n xs) : v.oneCell' = true := by
  rcases h.2 with ⟨rfl, _⟩ | ⟨g, cap, cur, rfl, _⟩ <;> rfl
end Go.Own
namespace Go.Proofs.YgcsalGreat
open Go.RowKit Go.Own
theorem zero119 : ((Salg.prog.info? 119).bind (·.zero)) = some (.agg zch.toArray) := by kernel_rfl
theorem size54 : (Salg.prog.info? 54).map (·.size) = some 1 := by kernel_rfl

set_option maxHeartbeats 4000000 in
set_option maxRecDepth 100000 in
theorem new_two (v u : Value) (ds : List Nat) (w : World) (hv : OasV w v [oaA u, oaB]) (hu : NatV w u ds) (hds : ds ≠ []) :
    Calls Salg.prog 80 #[v, .agg envL.toArray] w fun e w' => ∃ (c : Nat) (va tv nv bv cu nv2 bv2 : Value), e = .returned (.tuple #[.pointer (some ⟨c, 0, none⟩), .bool true]) ∧ w'.heap[c]? = some (.cells (ch0 va tv) 119 (0, 0)) ∧ AcsV w' va [acA nv bv cu, acB nv2 bv2] ∧ NumV w' nv 1 ∧ NumV w' bv 0 ∧ NatV w' cu ds ∧ NumV w' nv2 0 ∧ NumV w' bv2 340282366920938463463374607431768211456 ∧ NumV w' tv 340282366920938463463374607431768211456 ∧ w.heap.size ≤ c ∧ Kept [] w w' := by
  have M := Mem.start w []
  have hso : ∀ i (hi : i + 1 < [oaA u, oaB].length), adLt [oaA u, oaB][i].adr [oaA u, oaB][i + 1].adr = true := by
    intro i hi
    obtain rfl : i = 0 := by simp at hi; omega
    rfl
  have hzz : ∀ i (hi : i + 1 < [oaA u, oaB].length), [oaA u, oaB][i].bal = List.replicate 32 0 := by
    intro i hi
    obtain rfl : i = 0 := by simp at hi; omega
    rfl
  have HWO := hid (fun w' (K : Kept [] w w') => worldOK_any v _ w' (hv.kept K) (by simp) (by simp) hso hzz)
  clear hso hzz
  obtain ⟨g, cap, cur, rfl, hg, hsz, hcur⟩ := hv.row (by simp)
  have hsz2 : 110 ≤ cur.size := hsz
  have HEX0 : Hid (cur.extract 0 (0 + 55) = (oaA u).cells.toArray) := extract_list (by kernel_rfl) (by omega) (fun k hk => by simpa using hcur 0 k (by simp) hk)
  have HEX1 : Hid (cur.extract 55 (55 + 55) = oaB.cells.toArray) := extract_list (by kernel_rfl) (by omega) (fun k hk => by simpa using hcur 1 k (by simp) hk)
  have HU := hid hu
  clear hv hcur hsz hu
  simp only [List.length_cons, List.length_nil] at *
  go_enter Salg.func80, Salg.ntmps80
  go_wp2_with ((with_reducible apply L_box M); rfl; clear M; intro eb w1 heb M; simp only [Act.put, List.setIfInBounds_toArray, List.set_cons_zero, List.set_cons_succ])
  refine (HWO.out _ M.kept).mono ?_
  rintro e w2 ⟨rfl, K⟩
  replace M := M.call K
  clear K
  go_wp2_with ((with_reducible apply W_loadAllG); rfl; rfl; exact M.r0; exact Salg.underlying106; rfl; exact size106; simp only [Act.put, List.setIfInBounds_toArray, List.set_cons_zero, List.set_cons_succ])
  refine (envOK_any _).mono ?_
  rintro e w3 ⟨rfl, K⟩
  replace M := M.call K
  clear K
  go_wp2_with (first
    | ((with_reducible apply L_allocA (d := 20) M); exact zero119; clear M; intro c w4 hc M; simp only [Act.put, List.setIfInBounds_toArray, List.set_cons_zero, List.set_cons_succ])
    | ((with_reducible apply W_loadAll); rfl; exact M.r1; exact Salg.underlying106; rfl; exact size106; simp only [Act.put, List.setIfInBounds_toArray, List.set_cons_zero, List.set_cons_succ])
    | ((with_reducible apply W_stP (b := c) (o := 59) (n := 120) (v := .agg envL.toArray) (rs := ch0 nilS nilS)); rfl; rfl; exact M.r0; exact size106; kernel_rfl; exact oneL rfl; decide; exact zch_env; intro w5 K hr3; replace M := Mem.callPut (L1 := []) M (Or.inr hc) K hr3; clear K hr3; simp only [List.nil_append] at M)
    | ((with_reducible apply W_loadCell); rfl; exact M.r1; exact (show envL.toArray[119]? = some nilS by kernel_rfl); exact Salg.underlying54; rfl; simp only [Act.put, List.setIfInBounds_toArray, List.set_cons_zero, List.set_cons_succ]))
  refine (wordsOf_nil _).mono ?_
  rintro e w6 ⟨rfl, hw⟩
  replace hw := hw.symm
  subst hw
  go_wp2_with ((with_reducible apply W_stV (b := c) (o := 178) (v := nilS)); rfl; rfl; rfl; exact M.r0; exact size54; (rw [ch0_size]; decide); intro w7 K hr3; rw [ch0_s178] at hr3; replace M := Mem.callPut (L1 := []) M (Or.inr hc) K hr3; clear K hr3; simp only [List.nil_append] at M)
  replace M : Mem w [] [(c, .cells (ch0 nilS nilS) 119 (0, 0))] _ := M.sub (by simp)
  go_loopw [36] (fun iv wr => (iv = .int .i64 0 ∧ Mem w [] [(c, .cells (ch0 nilS nilS) 119 (0, 0))] wr) ∨
    (iv = .int .i64 1 ∧ ∃ (va tv nv bv cu : Value) (base : Nat), Mem w [] [(c, .cells (ch0 va tv) 119 (0, 0))] wr ∧ w.heap.size ≤ base ∧ c < base ∧ base ≤ wr.heap.size ∧ wr.ownsRow base 128 24 va 1 (acA nv bv cu).cells ∧ NumV wr nv 1 ∧ NumV wr bv 0 ∧ NatV wr cu ds ∧ NumV wr tv 0) ∨
    (iv = .int .i64 2 ∧ ∃ (va tv nv bv cu nv2 bv2 : Value) (base : Nat), Mem w [] [(c, .cells (ch0 va tv) 119 (0, 0))] wr ∧ wr.ownsRow base 128 24 va 2 ((acA nv bv cu).cells ++ (acB nv2 bv2).cells) ∧ NumV wr nv 1 ∧ NumV wr bv 0 ∧ NatV wr cu ds ∧ NumV wr nv2 0 ∧ NumV wr bv2 340282366920938463463374607431768211456 ∧ NumV wr tv 340282366920938463463374607431768211456)) (fun iv _ => (2 - intOf iv).toNat)
  case atStart => exact .inl ⟨rfl, M⟩
  case round =>
    clear M
    rcases hrel with ⟨rfl, M⟩ | ⟨rfl, va, tv, nv, bv, cu, base, M, hb1, hcb, hb2, xO, x1, x2, x3, x4⟩ | ⟨rfl, va, tv, nv, bv, cu, nv2, bv2, base, M, xO, x1, x2, x3, x4, x5, x6⟩
    · skip
      have HWR := hid M.kept
      have HRC := hid M.r0
      obtain ⟨B, hB⟩ : ∃ B : Nat, B = wr.heap.size := ⟨_, rfl⟩
      have hcr : c < B := by rw [hB]; exact lt_of_row HRC.out
      have hBw : w.heap.size ≤ B := by rw [hB]; exact HWR.out.size
      have MW := M
      replace M := Mem.start wr []
      go_wp2_with (first
        | ((with_reducible apply W_loadX (b := g) (o := 0) (n := 55) (cs := cur) (vs := (oaA u).cells.toArray)); rfl; exact HWR.out.row hg (by simp); exact Salg.underlying123; rfl; exact size123; omega; exact HEX0.out; simp only [Act.put, List.setIfInBounds_toArray, List.set_cons_zero, List.set_cons_succ])
        | ((with_reducible apply L_allocA (d := 8) M); exact zero123; clear M; intro t8 w1 ht8 M; simp only [Act.put, List.setIfInBounds_toArray, List.set_cons_zero, List.set_cons_succ])
        | ((with_reducible apply W_storeK (b := t8) (vs := (oaA u).cells.toArray)); rfl; rfl; exact M.r0; exact size123; rfl; exact oaA_oneT HU.out.one; intro w3 K hr3; replace M := Mem.callPut (L1 := []) M (Or.inr ht8) K hr3; clear K hr3; simp only [List.nil_append] at M))
      refine S_region (by kernel_rfl) ?_
      refine E_float 0 13 [0, 1, 2, 3, 5, 6, 8, 9, 4, 7, 10, 11] 12 9 _ (by kernel_rfl) ⟨⟨_, _, _, _, _, rfl, zero128, rfl⟩⟩ (by simp) M.drew ?_
      clear M
      simp only [List.filterMap_cons, List.filterMap_nil, List.getElem?_cons_zero, List.getElem?_cons_succ]
      ((with_reducible apply E_run); rfl; rfl; (intro w M; go_simp; (try go_ints); (try simp only [↓IntWalk.iteOmega]); (try with_reducible rfl)); simp only [Act.put, List.setIfInBounds_toArray, List.set_cons_zero, List.set_cons_succ])
      ((with_reducible apply E_run (v := .agg ((ad 1).map n8).toArray)); rfl; rfl; (intro w M; exact run_loadX (n := 20) M.r0 rfl Salg.underlying45 rfl size45 (Nat.le_of_ble_eq_true (by kernel_rfl)) (oaA_x u)); simp only [Act.put, List.setIfInBounds_toArray, List.set_cons_zero, List.set_cons_succ])
      ((with_reducible apply E_run); rfl; rfl; (intro w M; go_simp; (try go_ints); (try simp only [↓IntWalk.iteOmega]); (try with_reducible rfl)); simp only [Act.put, List.setIfInBounds_toArray, List.set_cons_zero, List.set_cons_succ])
      ((with_reducible apply E_run); rfl; rfl; (intro w M; exact run_loadCell (M.r0) rfl (show (oaA u).cells.toArray[20]? = some (n64 1) by kernel_rfl) Salg.underlying23 rfl); simp only [Act.put, List.setIfInBounds_toArray, List.set_cons_zero, List.set_cons_succ])
      ((with_reducible apply E_run); rfl; rfl; (intro w M; go_simp; (try go_ints); (try simp only [↓IntWalk.iteOmega]); (try with_reducible rfl)); simp only [Act.put, List.setIfInBounds_toArray, List.set_cons_zero, List.set_cons_succ])
      ((with_reducible apply E_run); rfl; rfl; (intro w M; exact run_sliceArr (l := 0) (h := 32) (m := 32) rfl Salg.underlying46 size5 (by (first | exact Or.inl ⟨rfl, rfl⟩ | exact Or.inr ⟨_, _, _, rfl, rfl, by omega⟩)) (by (first | exact Or.inl ⟨rfl, rfl⟩ | exact Or.inr ⟨_, _, _, rfl, rfl, by omega⟩)) (by (first | exact Or.inl ⟨rfl, rfl⟩ | exact Or.inr ⟨_, _, _, rfl, rfl, by omega⟩)) (by first | exact Or.inl rfl | exact Or.inr rfl) (by omega) (by omega) (by omega) (by omega)); (try simp only [Nat.zero_add, Nat.sub_zero]); simp only [Act.put, List.setIfInBounds_toArray, List.set_cons_zero, List.set_cons_succ])
      ((with_reducible apply E_run); rfl; rfl; (intro w M; go_simp; (try go_ints); (try simp only [↓IntWalk.iteOmega]); (try with_reducible rfl)); simp only [Act.put, List.setIfInBounds_toArray, List.set_cons_zero, List.set_cons_succ])
      ((with_reducible apply E_run); rfl; rfl; (intro w M; exact run_loadCell (M.r0) rfl (show (oaA u).cells.toArray[53]? = some u by kernel_rfl) Salg.underlying40 rfl); simp only [Act.put, List.setIfInBounds_toArray, List.set_cons_zero, List.set_cons_succ])
      refine E_call rfl Salg.func87 (by kernel_rfl) (by kernel_rfl) (args := [n64 1]) rfl ?_
      intro w1 K M
      clear K
      refine (num_int _ 1 rfl (by decide) _).mono ?_
      rintro e w4 ⟨nv, rfl, xHNV, K⟩
      have HNV := hid xHNV
      clear xHNV
      replace M := M.call K
      refine ⟨_, rfl, K.mono (by simp), M, ?_⟩
      clear K
      simp only [Act.put, List.setIfInBounds_toArray, List.set_cons_zero, List.set_cons_succ]
      refine E_call rfl Salg.func64 (by kernel_rfl) (by kernel_rfl) (args := [.slice (some ⟨t8, 21, none⟩) 32 32]) rfl ?_
      intro w1 K M
      replace HNV := hid (HNV.out.kept K)
      clear K
      refine (fromBE_at t8 21 123 32 _ (List.replicate 32 0) _ M.r0 (oaA_bal u) (by decide) small32).mono ?_
      rintro e w5 ⟨bv, rfl, xHBV, K⟩
      have HBV := hid xHBV
      clear xHBV
      replace HNV := hid (HNV.out.kept K)
      replace M := M.call K
      refine ⟨_, rfl, K.mono (by simp), M, ?_⟩
      clear K
      simp only [Act.put, List.setIfInBounds_toArray, List.set_cons_zero, List.set_cons_succ]
      refine E_call rfl Salg.func96 (by kernel_rfl) (by kernel_rfl) (args := [u]) rfl ?_
      intro w1 K M
      replace HNV := hid (HNV.out.kept K)
      replace HBV := hid (HBV.out.kept K)
      clear K
      refine (bytesOf_some u ds _ (HU.out.kept (HWR.out.trans M.kept)) hds).mono ?_
      rintro e w6 ⟨cu, rfl, xHCU, K⟩
      have HCU := hid xHCU
      clear xHCU
      replace HNV := hid (HNV.out.kept K)
      replace HBV := hid (HBV.out.kept K)
      replace M := M.call K
      refine ⟨_, rfl, K.mono (by simp), M, ?_⟩
      clear K
      simp only [Act.put, List.setIfInBounds_toArray, List.set_cons_zero, List.set_cons_succ]
      rw [be_zero32] at HBV
      ((with_reducible apply E_run (v := .agg (acA nv bv cu).cells.toArray)); rfl; rfl; (intro w M; obtain ⟨p0, n0, c0, e0⟩ := HNV.out.slice; subst e0; obtain ⟨p1, n1, c1, e1⟩ := HBV.out.slice; subst e1; obtain ⟨p2, n2, c2, e2⟩ := HCU.out.slice; subst e2; kernel_rfl); simp only [Act.put, List.setIfInBounds_toArray, List.set_cons_zero, List.set_cons_succ])
      refine E_nil ?_
      intro w7 K M
      replace HNV := hid (HNV.out.kept K)
      replace HBV := hid (HBV.out.kept K)
      replace HCU := hid (HCU.out.kept K)
      clear K
      intro t9 w8 K ht9 M
      replace HNV := hid (HNV.out.kept K)
      replace HBV := hid (HBV.out.kept K)
      replace HCU := hid (HCU.out.kept K)
      clear K
      simp only [Act.put, List.setIfInBounds_toArray, List.set_cons_zero, List.set_cons_succ]
      refine S_seg 13 14 (by kernel_rfl) (by decide) ?_
      simp only [List.take_succ_cons, List.take_zero, List.drop_zero, List.drop_succ_cons, Nat.sub_zero, Nat.reduceSub]
      have HNB9 := hid (not_bytes_at (cs := (z8 20 ++ [nilS, nilS, nilS, nilS]).toArray) (tc := 128) (i := 20) (p := none) (n := 0) (m := 0) (by kernel_rfl))
      go_wp2_with ((with_reducible apply W_storeK (b := t9) (vs := (acA nv bv cu).cells.toArray)); rfl; rfl; exact M.r0; exact size128; rfl; exact oneT (ac_one HNV.out.one HBV.out.one HCU.out.one).1; intro w3 K hr3; replace HNV := hid (HNV.out.keptC K M.r0 HNB9.out); replace HBV := hid (HBV.out.keptC K M.r0 HNB9.out); replace HCU := hid (HCU.out.keptC K M.r0 HNB9.out); replace M := Mem.callPut (L1 := []) M (Or.inr ht9) K hr3; clear K hr3; simp only [List.nil_append] at M)
      refine S_done ?_
      go_wp2_with ((with_reducible apply W_loadCell); rfl; exact M.r1; exact (show (oaA u).cells.toArray[54]? = some nilS by kernel_rfl); exact Salg.underlying121; rfl; simp only [Act.put, List.setIfInBounds_toArray, List.set_cons_zero, List.set_cons_succ])
      go_loopw [55] (fun iv wx => iv = .int .i64 0 ∧ Mem wr [] [(t9, .cells (acA nv bv cu).cells.toArray 128 (0, 0)), (t8, .cells (oaA u).cells.toArray 123 (0, 0))] wx ∧ NumV wx nv 1 ∧ NumV wx bv 0 ∧ NatV wx cu ds) (fun _ _ => 0)
      case atStart => exact ⟨rfl, M, HNV.out, HBV.out, HCU.out⟩
      case round =>
        clear M HNV HBV HCU
        obtain ⟨rfl, M, xHNV, xHBV, xHCU⟩ := hrel
        have HNV := hid xHNV
        have HBV := hid xHBV
        have HCU := hid xHCU
        clear xHNV xHBV xHCU
        have HKW := hid M.kept
        have h9c : t9 ≠ c := by rw [← hB] at ht9; omega
        have H9 := hid M.r0
        replace M := (MW.call M.kept).add M.r0 (by intro p hp; simp at hp; subst hp; exact h9c)
        go_wp2_with fail
        refine S_region (by kernel_rfl) ?_
        replace HNV := hid (HNV.out.kept (Kept.refl [] _).drew)
        replace HBV := hid (HBV.out.kept (Kept.refl [] _).drew)
        replace HCU := hid (HCU.out.kept (Kept.refl [] _).drew)
        have hbw := Nat.le_trans (Nat.le_of_eq hB) HKW.out.size
        refine E_stage 0 10 [0, 1, 2, 3, 4, 5, 6, 7, 8, 9] (by kernel_rfl) M.drew ?_
        clear M
        simp only [List.filterMap_cons, List.filterMap_nil, List.getElem?_cons_zero, List.getElem?_cons_succ]
        ((with_reducible apply E_run); rfl; rfl; (intro w M; go_simp; (try go_ints); (try simp only [↓IntWalk.iteOmega]); (try with_reducible rfl)); simp only [Act.put, List.setIfInBounds_toArray, List.set_cons_zero, List.set_cons_succ])
        ((with_reducible apply E_run); rfl; rfl; (intro w M; go_simp; (try go_ints); (try simp only [↓IntWalk.iteOmega]); (try with_reducible rfl)); simp only [Act.put, List.setIfInBounds_toArray, List.set_cons_zero, List.set_cons_succ])
        ((with_reducible apply E_run); rfl; rfl; (intro w M; go_simp; (try go_ints); (try simp only [↓IntWalk.iteOmega]); (try with_reducible rfl)); simp only [Act.put, List.setIfInBounds_toArray, List.set_cons_zero, List.set_cons_succ])
        ((with_reducible apply E_run); rfl; rfl; (intro w M; go_simp; (try go_ints); (try simp only [↓IntWalk.iteOmega]); (try with_reducible rfl)); simp only [Act.put, List.setIfInBounds_toArray, List.set_cons_zero, List.set_cons_succ])
        ((with_reducible apply E_run); rfl; rfl; (intro w M; go_simp; (try go_ints); (try simp only [↓IntWalk.iteOmega]); (try with_reducible rfl)); simp only [Act.put, List.setIfInBounds_toArray, List.set_cons_zero, List.set_cons_succ])
        ((with_reducible apply E_run); rfl; rfl; (intro w M; go_simp; (try go_ints); (try simp only [↓IntWalk.iteOmega]); (try with_reducible rfl)); simp only [Act.put, List.setIfInBounds_toArray, List.set_cons_zero, List.set_cons_succ])
        ((with_reducible apply E_run); rfl; rfl; (intro w M; exact run_loadCell (M.r1) rfl (ch0_0 _ _) Salg.underlying108 rfl); simp only [Act.put, List.setIfInBounds_toArray, List.set_cons_zero, List.set_cons_succ])
        ((with_reducible apply E_run); rfl; rfl; (intro w M; exact run_loadAll M.r0 rfl Salg.underlying128 rfl (by kernel_rfl)); simp only [Act.put, List.setIfInBounds_toArray, List.set_cons_zero, List.set_cons_succ])
        refine E_buildIt (vs := (acA nv bv cu).cells.toArray) (s := 24) rfl rfl Salg.underlying108 size128 zero128s rfl (by decide) (by decide) ?_
        intro bn wa wb K1 hbn hbn2 K2 M
        replace HNV := hid (HNV.out.kept K1)
        replace HBV := hid (HBV.out.kept K1)
        replace HCU := hid (HCU.out.kept K1)
        replace HNV := hid (HNV.out.kept K2)
        replace HBV := hid (HBV.out.kept K2)
        replace HCU := hid (HCU.out.kept K2)
        have hbw2 : B ≤ wb.heap.size := Nat.le_trans hbw (Nat.le_trans K1.size K2.size)
        clear K1 K2
        simp only [Act.put, List.setIfInBounds_toArray, List.set_cons_zero, List.set_cons_succ]
        refine E_appendIt (base := B) (n := 0) (m := 1) (s := 24) (bn := bn) (so := 0) (xs := []) (news := (acA nv bv cu).cells) (cs := (acA nv bv cu).cells.toArray) info128 Salg.underlying108 rfl (by decide) (by decide) rfl rfl (own_nil _ _ _ _) (by decide) M.r0 rfl (cells_news _) ((ac_one HNV.out.one HBV.out.one HCU.out.one).1) hBw hbw2 (apart2 (by intro h; cases h) (by intro h; cases h)) ?_
        clear M
        intro VV wc wd K1 M xO hb3 K2
        replace HNV := hid (HNV.out.kept K1)
        replace HBV := hid (HBV.out.kept K1)
        replace HCU := hid (HCU.out.kept K1)
        replace HNV := hid (HNV.out.kept K2)
        replace HBV := hid (HBV.out.kept K2)
        replace HCU := hid (HCU.out.kept K2)
        have HOW := hid xO
        clear xO K1 K2
        simp only [Act.put, List.setIfInBounds_toArray, List.set_cons_zero, List.set_cons_succ]
        refine E_nil ?_
        intro w9 K M
        replace HNV := hid (HNV.out.kept K)
        replace HBV := hid (HBV.out.kept K)
        replace HCU := hid (HCU.out.kept K)
        replace HOW := hid (own_kept HOW.out K)
        replace hb3 := Nat.le_trans hb3 K.size
        clear K
        refine S_seg 10 15 (by kernel_rfl) (by decide) ?_
        simp only [List.take_succ_cons, List.take_zero, List.drop_zero, List.drop_succ_cons, Nat.sub_zero, Nat.reduceSub]
        have HV1 : Hid (VV.oneCell' = true) := own_one HOW.out
        go_wp2_with ((with_reducible apply W_stV (b := c) (o := 0) (v := VV)); rfl; rfl; exact HV1.out; exact M.r1; exact size108; (rw [ch0_size]; decide); intro w10 K hr3; rw [ch0_s0] at hr3; replace HNV := hid (HNV.out.keptC K M.r1 (ch0_nb _ _)); replace HBV := hid (HBV.out.keptC K M.r1 (ch0_nb _ _)); replace HCU := hid (HCU.out.keptC K M.r1 (ch0_nb _ _)); replace HOW := hid (own_keptC HOW.out K M.r1 (by decide)); replace hb3 := Nat.le_trans hb3 K.size; replace M := Mem.callPut (L1 := [(t9, _)]) M (Or.inr hc) K hr3; clear K hr3; simp only [List.cons_append, List.nil_append] at M)
        refine S_done ?_
        go_wp2_with fail
        refine S_region (by kernel_rfl) ?_
        replace HNV := hid (HNV.out.kept (Kept.refl [] _).drew)
        replace HBV := hid (HBV.out.kept (Kept.refl [] _).drew)
        replace HCU := hid (HCU.out.kept (Kept.refl [] _).drew)
        replace HOW := hid (own_kept HOW.out (Kept.refl [] _).drew)
        refine E_stage 0 9 [0, 1, 2, 3, 4, 5, 6, 7, 8] (by kernel_rfl) M.drew ?_
        clear M
        simp only [List.filterMap_cons, List.filterMap_nil, List.getElem?_cons_zero, List.getElem?_cons_succ]
        ((with_reducible apply E_run); rfl; rfl; (intro w M; go_simp; (try go_ints); (try simp only [↓IntWalk.iteOmega]); (try with_reducible rfl)); simp only [Act.put, List.setIfInBounds_toArray, List.set_cons_zero, List.set_cons_succ])
        ((with_reducible apply E_run); rfl; rfl; (intro w M; go_simp; (try go_ints); (try simp only [↓IntWalk.iteOmega]); (try with_reducible rfl)); simp only [Act.put, List.setIfInBounds_toArray, List.set_cons_zero, List.set_cons_succ])
        ((with_reducible apply E_run); rfl; rfl; (intro w M; go_simp; (try go_ints); (try simp only [↓IntWalk.iteOmega]); (try with_reducible rfl)); simp only [Act.put, List.setIfInBounds_toArray, List.set_cons_zero, List.set_cons_succ])
        ((with_reducible apply E_run); rfl; rfl; (intro w M; go_simp; (try go_ints); (try simp only [↓IntWalk.iteOmega]); (try with_reducible rfl)); simp only [Act.put, List.setIfInBounds_toArray, List.set_cons_zero, List.set_cons_succ])
        ((with_reducible apply E_run); rfl; rfl; (intro w M; go_simp; (try go_ints); (try simp only [↓IntWalk.iteOmega]); (try with_reducible rfl)); simp only [Act.put, List.setIfInBounds_toArray, List.set_cons_zero, List.set_cons_succ])
        ((with_reducible apply E_run); rfl; rfl; (intro w M; exact run_loadCell (M.r1) rfl (ch0_18 _ _) Salg.underlying89 rfl); simp only [Act.put, List.setIfInBounds_toArray, List.set_cons_zero, List.set_cons_succ])
        ((with_reducible apply E_run); rfl; rfl; (intro w M; go_simp; (try go_ints); (try simp only [↓IntWalk.iteOmega]); (try with_reducible rfl)); simp only [Act.put, List.setIfInBounds_toArray, List.set_cons_zero, List.set_cons_succ])
        ((with_reducible apply E_run); rfl; rfl; (intro w M; exact run_loadCell (M.r0) rfl (show (acA nv bv cu).cells.toArray[21]? = some bv by kernel_rfl) Salg.underlying89 rfl); simp only [Act.put, List.setIfInBounds_toArray, List.set_cons_zero, List.set_cons_succ])
        refine E_call rfl Salg.func68 (by kernel_rfl) (by kernel_rfl) (args := [nilS, bv]) rfl ?_
        intro w1 K M
        replace HNV := hid (HNV.out.kept K)
        replace HBV := hid (HBV.out.kept K)
        replace HCU := hid (HCU.out.kept K)
        replace HOW := hid (own_kept HOW.out K)
        replace hb3 := Nat.le_trans hb3 K.size
        clear K
        refine (add_num _ _ 0 0 _ (nil_num _) HBV.out (by decide) (by decide)).mono ?_
        rintro e w11 ⟨tv2, rfl, xHTV2, K⟩
        have HTV2 := hid xHTV2
        clear xHTV2
        replace HNV := hid (HNV.out.kept K)
        replace HBV := hid (HBV.out.kept K)
        replace HCU := hid (HCU.out.kept K)
        replace HOW := hid (own_kept HOW.out K)
        replace hb3 := Nat.le_trans hb3 K.size
        replace M := M.call K
        refine ⟨_, rfl, trivial, M, ?_⟩
        clear K
        simp only [Act.put, List.setIfInBounds_toArray, List.set_cons_zero, List.set_cons_succ]
        refine E_nil ?_
        intro w12 K M
        replace HNV := hid (HNV.out.kept K)
        replace HBV := hid (HBV.out.kept K)
        replace HCU := hid (HCU.out.kept K)
        replace HTV2 := hid (HTV2.out.kept K)
        replace HOW := hid (own_kept HOW.out K)
        replace hb3 := Nat.le_trans hb3 K.size
        clear K
        refine S_seg 9 13 (by kernel_rfl) (by decide) ?_
        simp only [List.take_succ_cons, List.take_zero, List.drop_zero, List.drop_succ_cons, Nat.sub_zero, Nat.reduceSub]
        go_wp2_with ((with_reducible apply W_stV (b := c) (o := 18) (v := tv2)); rfl; rfl; exact HTV2.out.one; exact M.r1; exact size89; (rw [ch0_size]; decide); intro w13 K hr3; rw [ch0_s18] at hr3; replace HNV := hid (HNV.out.keptC K M.r1 (ch0_nb _ _)); replace HBV := hid (HBV.out.keptC K M.r1 (ch0_nb _ _)); replace HCU := hid (HCU.out.keptC K M.r1 (ch0_nb _ _)); replace HTV2 := hid (HTV2.out.keptC K M.r1 (ch0_nb _ _)); replace HOW := hid (own_keptC HOW.out K M.r1 (by decide)); replace hb3 := Nat.le_trans hb3 K.size; replace M := Mem.callPut (L1 := [(t9, _)]) M (Or.inr hc) K hr3; clear K hr3; simp only [List.cons_append, List.nil_append] at M)
        refine S_done ?_
        go_wp2_with fail
        go_roundw
        case rel => exact .inr (.inl ⟨by go_num, VV, tv2, nv, bv, cu, B, M.tail, hBw, hcr, hb3, HOW.out, HNV.out, HBV.out, HCU.out, HTV2.out⟩)
        case measure => decide
    · have HO := hid xO
      have HNV := hid x1
      have HBV := hid x2
      have HCU := hid x3
      have HTV := hid x4
      clear xO x1 x2 x3 x4
      have HWR := hid M.kept
      have HRC := hid M.r0
      obtain ⟨B, hB⟩ : ∃ B : Nat, B = wr.heap.size := ⟨_, rfl⟩
      have hcr : c < B := by rw [hB]; exact lt_of_row HRC.out
      have hBw : w.heap.size ≤ B := by rw [hB]; exact HWR.out.size
      have MW := M
      replace M := Mem.start wr []
      go_wp2_with (first
        | ((with_reducible apply W_loadX (b := g) (o := 55) (n := 55) (cs := cur) (vs := oaB.cells.toArray)); rfl; exact HWR.out.row hg (by simp); exact Salg.underlying123; rfl; exact size123; omega; exact HEX1.out; simp only [Act.put, List.setIfInBounds_toArray, List.set_cons_zero, List.set_cons_succ])
        | ((with_reducible apply L_allocA (d := 8) M); exact zero123; clear M; intro t8 w1 ht8 M; simp only [Act.put, List.setIfInBounds_toArray, List.set_cons_zero, List.set_cons_succ])
        | ((with_reducible apply W_storeK (b := t8) (vs := oaB.cells.toArray)); rfl; rfl; exact M.r0; exact size123; rfl; exact oneL rfl; intro w3 K hr3; replace M := Mem.callPut (L1 := []) M (Or.inr ht8) K hr3; clear K hr3; simp only [List.nil_append] at M))
      refine S_region (by kernel_rfl) ?_
      refine E_float 0 13 [0, 1, 2, 3, 5, 6, 8, 9, 4, 7, 10, 11] 12 9 _ (by kernel_rfl) ⟨⟨_, _, _, _, _, rfl, zero128, rfl⟩⟩ (by simp) M.drew ?_
      clear M
      simp only [List.filterMap_cons, List.filterMap_nil, List.getElem?_cons_zero, List.getElem?_cons_succ]
      ((with_reducible apply E_run); rfl; rfl; (intro w M; go_simp; (try go_ints); (try simp only [↓IntWalk.iteOmega]); (try with_reducible rfl)); simp only [Act.put, List.setIfInBounds_toArray, List.set_cons_zero, List.set_cons_succ])
      ((with_reducible apply E_run (v := .agg ((ad 240).map n8).toArray)); rfl; rfl; (intro w M; exact run_loadX (n := 20) M.r0 rfl Salg.underlying45 rfl size45 (Nat.le_of_ble_eq_true (by kernel_rfl)) (oaB_x)); simp only [Act.put, List.setIfInBounds_toArray, List.set_cons_zero, List.set_cons_succ])
      ((with_reducible apply E_run); rfl; rfl; (intro w M; go_simp; (try go_ints); (try simp only [↓IntWalk.iteOmega]); (try with_reducible rfl)); simp only [Act.put, List.setIfInBounds_toArray, List.set_cons_zero, List.set_cons_succ])
      ((with_reducible apply E_run); rfl; rfl; (intro w M; exact run_loadCell (M.r0) rfl (show oaB.cells.toArray[20]? = some (n64 0) by kernel_rfl) Salg.underlying23 rfl); simp only [Act.put, List.setIfInBounds_toArray, List.set_cons_zero, List.set_cons_succ])
      ((with_reducible apply E_run); rfl; rfl; (intro w M; go_simp; (try go_ints); (try simp only [↓IntWalk.iteOmega]); (try with_reducible rfl)); simp only [Act.put, List.setIfInBounds_toArray, List.set_cons_zero, List.set_cons_succ])
      ((with_reducible apply E_run); rfl; rfl; (intro w M; exact run_sliceArr (l := 0) (h := 32) (m := 32) rfl Salg.underlying46 size5 (by (first | exact Or.inl ⟨rfl, rfl⟩ | exact Or.inr ⟨_, _, _, rfl, rfl, by omega⟩)) (by (first | exact Or.inl ⟨rfl, rfl⟩ | exact Or.inr ⟨_, _, _, rfl, rfl, by omega⟩)) (by (first | exact Or.inl ⟨rfl, rfl⟩ | exact Or.inr ⟨_, _, _, rfl, rfl, by omega⟩)) (by first | exact Or.inl rfl | exact Or.inr rfl) (by omega) (by omega) (by omega) (by omega)); (try simp only [Nat.zero_add, Nat.sub_zero]); simp only [Act.put, List.setIfInBounds_toArray, List.set_cons_zero, List.set_cons_succ])
      ((with_reducible apply E_run); rfl; rfl; (intro w M; go_simp; (try go_ints); (try simp only [↓IntWalk.iteOmega]); (try with_reducible rfl)); simp only [Act.put, List.setIfInBounds_toArray, List.set_cons_zero, List.set_cons_succ])
      ((with_reducible apply E_run); rfl; rfl; (intro w M; exact run_loadCell (M.r0) rfl (show oaB.cells.toArray[53]? = some nilS by kernel_rfl) Salg.underlying40 rfl); simp only [Act.put, List.setIfInBounds_toArray, List.set_cons_zero, List.set_cons_succ])
      refine E_call rfl Salg.func87 (by kernel_rfl) (by kernel_rfl) (args := [n64 0]) rfl ?_
      intro w1 K M
      clear K
      refine (num_int _ 0 rfl (by decide) _).mono ?_
      rintro e w4 ⟨nv2, rfl, xHNV2, K⟩
      have HNV2 := hid xHNV2
      clear xHNV2
      replace M := M.call K
      refine ⟨_, rfl, K.mono (by simp), M, ?_⟩
      clear K
      simp only [Act.put, List.setIfInBounds_toArray, List.set_cons_zero, List.set_cons_succ]
      refine E_call rfl Salg.func64 (by kernel_rfl) (by kernel_rfl) (args := [.slice (some ⟨t8, 21, none⟩) 32 32]) rfl ?_
      intro w1 K M
      replace HNV2 := hid (HNV2.out.kept K)
      clear K
      refine (fromBE_at t8 21 123 32 _ balB _ M.r0 (oaB_bal) (by decide) smallB).mono ?_
      rintro e w5 ⟨bv2, rfl, xHBV2, K⟩
      have HBV2 := hid xHBV2
      clear xHBV2
      replace HNV2 := hid (HNV2.out.kept K)
      replace M := M.call K
      refine ⟨_, rfl, K.mono (by simp), M, ?_⟩
      clear K
      simp only [Act.put, List.setIfInBounds_toArray, List.set_cons_zero, List.set_cons_succ]
      refine E_call rfl Salg.func96 (by kernel_rfl) (by kernel_rfl) (args := [nilS]) rfl ?_
      intro w1 K M
      replace HNV2 := hid (HNV2.out.kept K)
      replace HBV2 := hid (HBV2.out.kept K)
      clear K
      refine (bytesOf_nil _).mono ?_
      rintro e w6 ⟨rfl, hw⟩
      replace hw := hw.symm
      subst hw
      refine ⟨_, rfl, Kept.refl _ _, M, ?_⟩
      simp only [Act.put, List.setIfInBounds_toArray, List.set_cons_zero, List.set_cons_succ]
      rw [be_balB] at HBV2
      ((with_reducible apply E_run (v := .agg (acB nv2 bv2).cells.toArray)); rfl; rfl; (intro w M; obtain ⟨p0, n0, c0, e0⟩ := HNV2.out.slice; subst e0; obtain ⟨p1, n1, c1, e1⟩ := HBV2.out.slice; subst e1; kernel_rfl); simp only [Act.put, List.setIfInBounds_toArray, List.set_cons_zero, List.set_cons_succ])
      refine E_nil ?_
      intro w7 K M
      replace HNV2 := hid (HNV2.out.kept K)
      replace HBV2 := hid (HBV2.out.kept K)
      clear K
      intro t9 w8 K ht9 M
      replace HNV2 := hid (HNV2.out.kept K)
      replace HBV2 := hid (HBV2.out.kept K)
      clear K
      simp only [Act.put, List.setIfInBounds_toArray, List.set_cons_zero, List.set_cons_succ]
      refine S_seg 13 14 (by kernel_rfl) (by decide) ?_
      simp only [List.take_succ_cons, List.take_zero, List.drop_zero, List.drop_succ_cons, Nat.sub_zero, Nat.reduceSub]
      have HNB9 := hid (not_bytes_at (cs := (z8 20 ++ [nilS, nilS, nilS, nilS]).toArray) (tc := 128) (i := 20) (p := none) (n := 0) (m := 0) (by kernel_rfl))
      go_wp2_with ((with_reducible apply W_storeK (b := t9) (vs := (acB nv2 bv2).cells.toArray)); rfl; rfl; exact M.r0; exact size128; rfl; exact oneT (ac_one HNV2.out.one HBV2.out.one (cu := nilS) rfl).2; intro w3 K hr3; replace HNV2 := hid (HNV2.out.keptC K M.r0 HNB9.out); replace HBV2 := hid (HBV2.out.keptC K M.r0 HNB9.out); replace M := Mem.callPut (L1 := []) M (Or.inr ht9) K hr3; clear K hr3; simp only [List.nil_append] at M)
      refine S_done ?_
      go_wp2_with ((with_reducible apply W_loadCell); rfl; exact M.r1; exact (show oaB.cells.toArray[54]? = some nilS by kernel_rfl); exact Salg.underlying121; rfl; simp only [Act.put, List.setIfInBounds_toArray, List.set_cons_zero, List.set_cons_succ])
      go_loopw [55] (fun iv wx => iv = .int .i64 0 ∧ Mem wr [] [(t9, .cells (acB nv2 bv2).cells.toArray 128 (0, 0)), (t8, .cells oaB.cells.toArray 123 (0, 0))] wx ∧ NumV wx nv2 0 ∧ NumV wx bv2 340282366920938463463374607431768211456) (fun _ _ => 0)
      case atStart => exact ⟨rfl, M, HNV2.out, HBV2.out⟩
      case round =>
        clear M HNV2 HBV2
        obtain ⟨rfl, M, xHNV2, xHBV2⟩ := hrel
        have HNV2 := hid xHNV2
        have HBV2 := hid xHBV2
        clear xHNV2 xHBV2
        have HKW := hid M.kept
        replace HNV := hid (HNV.out.kept M.kept)
        replace HBV := hid (HBV.out.kept M.kept)
        replace HCU := hid (HCU.out.kept M.kept)
        replace HTV := hid (HTV.out.kept M.kept)
        have h9c : t9 ≠ c := by rw [← hB] at ht9; omega
        have HO9 := hid (own_new HO.out ht9)
        replace HO := hid (own_kept HO.out M.kept)
        replace hb2 := Nat.le_trans hb2 M.kept.size
        have H9 := hid M.r0
        replace M := (MW.call M.kept).add M.r0 (by intro p hp; simp at hp; subst hp; exact h9c)
        go_wp2_with fail
        refine S_region (by kernel_rfl) ?_
        replace HNV := hid (HNV.out.kept (Kept.refl [] _).drew)
        replace HBV := hid (HBV.out.kept (Kept.refl [] _).drew)
        replace HCU := hid (HCU.out.kept (Kept.refl [] _).drew)
        replace HTV := hid (HTV.out.kept (Kept.refl [] _).drew)
        replace HNV2 := hid (HNV2.out.kept (Kept.refl [] _).drew)
        replace HBV2 := hid (HBV2.out.kept (Kept.refl [] _).drew)
        replace HO := hid (own_kept HO.out (Kept.refl [] _).drew)
        refine E_stage 0 10 [0, 1, 2, 3, 4, 5, 6, 7, 8, 9] (by kernel_rfl) M.drew ?_
        clear M
        simp only [List.filterMap_cons, List.filterMap_nil, List.getElem?_cons_zero, List.getElem?_cons_succ]
        ((with_reducible apply E_run); rfl; rfl; (intro w M; go_simp; (try go_ints); (try simp only [↓IntWalk.iteOmega]); (try with_reducible rfl)); simp only [Act.put, List.setIfInBounds_toArray, List.set_cons_zero, List.set_cons_succ])
        ((with_reducible apply E_run); rfl; rfl; (intro w M; go_simp; (try go_ints); (try simp only [↓IntWalk.iteOmega]); (try with_reducible rfl)); simp only [Act.put, List.setIfInBounds_toArray, List.set_cons_zero, List.set_cons_succ])
        ((with_reducible apply E_run); rfl; rfl; (intro w M; go_simp; (try go_ints); (try simp only [↓IntWalk.iteOmega]); (try with_reducible rfl)); simp only [Act.put, List.setIfInBounds_toArray, List.set_cons_zero, List.set_cons_succ])
        ((with_reducible apply E_run); rfl; rfl; (intro w M; go_simp; (try go_ints); (try simp only [↓IntWalk.iteOmega]); (try with_reducible rfl)); simp only [Act.put, List.setIfInBounds_toArray, List.set_cons_zero, List.set_cons_succ])
        ((with_reducible apply E_run); rfl; rfl; (intro w M; go_simp; (try go_ints); (try simp only [↓IntWalk.iteOmega]); (try with_reducible rfl)); simp only [Act.put, List.setIfInBounds_toArray, List.set_cons_zero, List.set_cons_succ])
        ((with_reducible apply E_run); rfl; rfl; (intro w M; go_simp; (try go_ints); (try simp only [↓IntWalk.iteOmega]); (try with_reducible rfl)); simp only [Act.put, List.setIfInBounds_toArray, List.set_cons_zero, List.set_cons_succ])
        ((with_reducible apply E_run); rfl; rfl; (intro w M; exact run_loadCell (M.r1) rfl (ch0_0 _ _) Salg.underlying108 rfl); simp only [Act.put, List.setIfInBounds_toArray, List.set_cons_zero, List.set_cons_succ])
        ((with_reducible apply E_run); rfl; rfl; (intro w M; exact run_loadAll M.r0 rfl Salg.underlying128 rfl (by kernel_rfl)); simp only [Act.put, List.setIfInBounds_toArray, List.set_cons_zero, List.set_cons_succ])
        refine E_buildIt (vs := (acB nv2 bv2).cells.toArray) (s := 24) rfl rfl Salg.underlying108 size128 zero128s rfl (by decide) (by decide) ?_
        intro bn wa wb K1 hbn hbn2 K2 M
        replace HNV := hid (HNV.out.kept K1)
        replace HBV := hid (HBV.out.kept K1)
        replace HCU := hid (HCU.out.kept K1)
        replace HTV := hid (HTV.out.kept K1)
        replace HNV2 := hid (HNV2.out.kept K1)
        replace HBV2 := hid (HBV2.out.kept K1)
        replace HNV := hid (HNV.out.kept K2)
        replace HBV := hid (HBV.out.kept K2)
        replace HCU := hid (HCU.out.kept K2)
        replace HTV := hid (HTV.out.kept K2)
        replace HNV2 := hid (HNV2.out.kept K2)
        replace HBV2 := hid (HBV2.out.kept K2)
        replace HO := hid (own_kept (own_kept HO.out K1) K2)
        have hbw2 : base ≤ wb.heap.size := Nat.le_trans hb2 (Nat.le_trans K1.size K2.size)
        clear K1 K2
        simp only [Act.put, List.setIfInBounds_toArray, List.set_cons_zero, List.set_cons_succ]
        refine E_appendIt (base := base) (n := 1) (m := 1) (s := 24) (bn := bn) (so := 0) (xs := (acA nv bv cu).cells) (news := (acB nv2 bv2).cells) (cs := (acB nv2 bv2).cells.toArray) info128 Salg.underlying108 rfl (by decide) (by decide) rfl rfl (HO.out) (by decide) M.r0 rfl (cells_news _) ((ac_one HNV2.out.one HBV2.out.one (cu := nilS) rfl).2) hb1 hbw2 (apart2 HO9.out (own_old HO.out hcb)) ?_
        clear M
        intro VV wc wd K1 M xO hb3 K2
        replace HNV := hid (HNV.out.kept K1)
        replace HBV := hid (HBV.out.kept K1)
        replace HCU := hid (HCU.out.kept K1)
        replace HTV := hid (HTV.out.kept K1)
        replace HNV2 := hid (HNV2.out.kept K1)
        replace HBV2 := hid (HBV2.out.kept K1)
        replace HNV := hid (HNV.out.keptO K2 (own_kept HO.out K1) (k := 23) (p := none) (a := 0) (b := 0) (by kernel_rfl))
        replace HBV := hid (HBV.out.keptO K2 (own_kept HO.out K1) (k := 23) (p := none) (a := 0) (b := 0) (by kernel_rfl))
        replace HCU := hid (HCU.out.keptO K2 (own_kept HO.out K1) (k := 23) (p := none) (a := 0) (b := 0) (by kernel_rfl))
        replace HTV := hid (HTV.out.keptO K2 (own_kept HO.out K1) (k := 23) (p := none) (a := 0) (b := 0) (by kernel_rfl))
        replace HNV2 := hid (HNV2.out.keptO K2 (own_kept HO.out K1) (k := 23) (p := none) (a := 0) (b := 0) (by kernel_rfl))
        replace HBV2 := hid (HBV2.out.keptO K2 (own_kept HO.out K1) (k := 23) (p := none) (a := 0) (b := 0) (by kernel_rfl))
        have HOW := hid xO
        clear xO K1 K2
        simp only [Act.put, List.setIfInBounds_toArray, List.set_cons_zero, List.set_cons_succ]
        refine E_nil ?_
        intro w9 K M
        replace HNV := hid (HNV.out.kept K)
        replace HBV := hid (HBV.out.kept K)
        replace HCU := hid (HCU.out.kept K)
        replace HTV := hid (HTV.out.kept K)
        replace HNV2 := hid (HNV2.out.kept K)
        replace HBV2 := hid (HBV2.out.kept K)
        replace HOW := hid (own_kept HOW.out K)
        replace hb3 := Nat.le_trans hb3 K.size
        clear K
        refine S_seg 10 15 (by kernel_rfl) (by decide) ?_
        simp only [List.take_succ_cons, List.take_zero, List.drop_zero, List.drop_succ_cons, Nat.sub_zero, Nat.reduceSub]
        have HV1 : Hid (VV.oneCell' = true) := own_one HOW.out
        go_wp2_with ((with_reducible apply W_stV (b := c) (o := 0) (v := VV)); rfl; rfl; exact HV1.out; exact M.r1; exact size108; (rw [ch0_size]; decide); intro w10 K hr3; rw [ch0_s0] at hr3; replace HNV := hid (HNV.out.keptC K M.r1 (ch0_nb _ _)); replace HBV := hid (HBV.out.keptC K M.r1 (ch0_nb _ _)); replace HCU := hid (HCU.out.keptC K M.r1 (ch0_nb _ _)); replace HTV := hid (HTV.out.keptC K M.r1 (ch0_nb _ _)); replace HNV2 := hid (HNV2.out.keptC K M.r1 (ch0_nb _ _)); replace HBV2 := hid (HBV2.out.keptC K M.r1 (ch0_nb _ _)); replace HOW := hid (own_keptC HOW.out K M.r1 (by decide)); replace hb3 := Nat.le_trans hb3 K.size; replace M := Mem.callPut (L1 := [(t9, _)]) M (Or.inr hc) K hr3; clear K hr3; simp only [List.cons_append, List.nil_append] at M)
        refine S_done ?_
        go_wp2_with fail
        refine S_region (by kernel_rfl) ?_
        replace HNV := hid (HNV.out.kept (Kept.refl [] _).drew)
        replace HBV := hid (HBV.out.kept (Kept.refl [] _).drew)
        replace HCU := hid (HCU.out.kept (Kept.refl [] _).drew)
        replace HTV := hid (HTV.out.kept (Kept.refl [] _).drew)
        replace HNV2 := hid (HNV2.out.kept (Kept.refl [] _).drew)
        replace HBV2 := hid (HBV2.out.kept (Kept.refl [] _).drew)
        replace HOW := hid (own_kept HOW.out (Kept.refl [] _).drew)
        refine E_stage 0 9 [0, 1, 2, 3, 4, 5, 6, 7, 8] (by kernel_rfl) M.drew ?_
        clear M
        simp only [List.filterMap_cons, List.filterMap_nil, List.getElem?_cons_zero, List.getElem?_cons_succ]
        ((with_reducible apply E_run); rfl; rfl; (intro w M; go_simp; (try go_ints); (try simp only [↓IntWalk.iteOmega]); (try with_reducible rfl)); simp only [Act.put, List.setIfInBounds_toArray, List.set_cons_zero, List.set_cons_succ])
        ((with_reducible apply E_run); rfl; rfl; (intro w M; go_simp; (try go_ints); (try simp only [↓IntWalk.iteOmega]); (try with_reducible rfl)); simp only [Act.put, List.setIfInBounds_toArray, List.set_cons_zero, List.set_cons_succ])
        ((with_reducible apply E_run); rfl; rfl; (intro w M; go_simp; (try go_ints); (try simp only [↓IntWalk.iteOmega]); (try with_reducible rfl)); simp only [Act.put, List.setIfInBounds_toArray, List.set_cons_zero, List.set_cons_succ])
        ((with_reducible apply E_run); rfl; rfl; (intro w M; go_simp; (try go_ints); (try simp only [↓IntWalk.iteOmega]); (try with_reducible rfl)); simp only [Act.put, List.setIfInBounds_toArray, List.set_cons_zero, List.set_cons_succ])
        ((with_reducible apply E_run); rfl; rfl; (intro w M; go_simp; (try go_ints); (try simp only [↓IntWalk.iteOmega]); (try with_reducible rfl)); simp only [Act.put, List.setIfInBounds_toArray, List.set_cons_zero, List.set_cons_succ])
        ((with_reducible apply E_run); rfl; rfl; (intro w M; exact run_loadCell (M.r1) rfl (ch0_18 _ _) Salg.underlying89 rfl); simp only [Act.put, List.setIfInBounds_toArray, List.set_cons_zero, List.set_cons_succ])
        ((with_reducible apply E_run); rfl; rfl; (intro w M; go_simp; (try go_ints); (try simp only [↓IntWalk.iteOmega]); (try with_reducible rfl)); simp only [Act.put, List.setIfInBounds_toArray, List.set_cons_zero, List.set_cons_succ])
        ((with_reducible apply E_run); rfl; rfl; (intro w M; exact run_loadCell (M.r0) rfl (show (acB nv2 bv2).cells.toArray[21]? = some bv2 by kernel_rfl) Salg.underlying89 rfl); simp only [Act.put, List.setIfInBounds_toArray, List.set_cons_zero, List.set_cons_succ])
        refine E_call rfl Salg.func68 (by kernel_rfl) (by kernel_rfl) (args := [tv, bv2]) rfl ?_
        intro w1 K M
        replace HNV := hid (HNV.out.kept K)
        replace HBV := hid (HBV.out.kept K)
        replace HCU := hid (HCU.out.kept K)
        replace HTV := hid (HTV.out.kept K)
        replace HNV2 := hid (HNV2.out.kept K)
        replace HBV2 := hid (HBV2.out.kept K)
        replace HOW := hid (own_kept HOW.out K)
        replace hb3 := Nat.le_trans hb3 K.size
        clear K
        refine (add_num _ _ 0 340282366920938463463374607431768211456 _ HTV.out HBV2.out (by decide) (by decide)).mono ?_
        rintro e w11 ⟨tv2, rfl, xHTV2, K⟩
        have HTV2 := hid xHTV2
        clear xHTV2
        replace HNV := hid (HNV.out.kept K)
        replace HBV := hid (HBV.out.kept K)
        replace HCU := hid (HCU.out.kept K)
        replace HTV := hid (HTV.out.kept K)
        replace HNV2 := hid (HNV2.out.kept K)
        replace HBV2 := hid (HBV2.out.kept K)
        replace HOW := hid (own_kept HOW.out K)
        replace hb3 := Nat.le_trans hb3 K.size
        replace M := M.call K
        refine ⟨_, rfl, trivial, M, ?_⟩
        clear K
        simp only [Act.put, List.setIfInBounds_toArray, List.set_cons_zero, List.set_cons_succ]
        refine E_nil ?_
        intro w12 K M
        replace HNV := hid (HNV.out.kept K)
        replace HBV := hid (HBV.out.kept K)
        replace HCU := hid (HCU.out.kept K)
        replace HTV := hid (HTV.out.kept K)
        replace HNV2 := hid (HNV2.out.kept K)
        replace HBV2 := hid (HBV2.out.kept K)
        replace HTV2 := hid (HTV2.out.kept K)
        replace HOW := hid (own_kept HOW.out K)
        replace hb3 := Nat.le_trans hb3 K.size
        clear K
        refine S_seg 9 13 (by kernel_rfl) (by decide) ?_
        simp only [List.take_succ_cons, List.take_zero, List.drop_zero, List.drop_succ_cons, Nat.sub_zero, Nat.reduceSub]
        go_wp2_with ((with_reducible apply W_stV (b := c) (o := 18) (v := tv2)); rfl; rfl; exact HTV2.out.one; exact M.r1; exact size89; (rw [ch0_size]; decide); intro w13 K hr3; rw [ch0_s18] at hr3; replace HNV := hid (HNV.out.keptC K M.r1 (ch0_nb _ _)); replace HBV := hid (HBV.out.keptC K M.r1 (ch0_nb _ _)); replace HCU := hid (HCU.out.keptC K M.r1 (ch0_nb _ _)); replace HTV := hid (HTV.out.keptC K M.r1 (ch0_nb _ _)); replace HNV2 := hid (HNV2.out.keptC K M.r1 (ch0_nb _ _)); replace HBV2 := hid (HBV2.out.keptC K M.r1 (ch0_nb _ _)); replace HTV2 := hid (HTV2.out.keptC K M.r1 (ch0_nb _ _)); replace HOW := hid (own_keptC HOW.out K M.r1 (by decide)); replace hb3 := Nat.le_trans hb3 K.size; replace M := Mem.callPut (L1 := [(t9, _)]) M (Or.inr hc) K hr3; clear K hr3; simp only [List.cons_append, List.nil_append] at M)
        refine S_done ?_
        go_wp2_with fail
        go_roundw
        case rel => exact .inr (.inr ⟨by go_num, VV, tv2, nv, bv, cu, nv2, bv2, base, M.tail, HOW.out, HNV.out, HBV.out, HCU.out, HNV2.out, HBV2.out, HTV2.out⟩)
        case measure => decide
    · have HO := hid xO
      have H1 := hid x1
      have H2 := hid x2
      have H3 := hid x3
      have H4 := hid x4
      have H5 := hid x5
      have H6 := hid x6
      clear xO x1 x2 x3 x4 x5 x6
      go_wp2_with fail
      go_ret2
      refine ⟨c, va, tv, nv, bv, cu, nv2, bv2, rfl, M.r0, ⟨own_mono HO.out (Nat.zero_le _), ?_, by simp⟩, H1.out, H2.out, H3.out, H4.out, H5.out, H6.out, hc, M.kept⟩
      intro p hp
      simp at hp
      rcases hp with rfl | rfl
      · exact ⟨rfl, rfl, by intro x hx; simp [acA] at hx; rcases hx with rfl | rfl | rfl | rfl; exact H1.out.one; exact H2.out.one; exact H3.out.one; rfl, by intro x hx; simp [acA, ad] at hx <;> omega⟩
      · exact ⟨rfl, rfl, by intro x hx; simp [acB] at hx; rcases hx with rfl | rfl | rfl; exact H4.out.one; exact H5.out.one; rfl, by intro x hx; simp [acB, ad] at hx <;> omega⟩
end Go.Proofs.YgcsalGreat

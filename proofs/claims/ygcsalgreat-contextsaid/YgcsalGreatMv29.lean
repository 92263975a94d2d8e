/-
  Copies of several cells; the walks of yp.bytesOf, yp.natOf, yp.logsOf, yp.addrsOf, law.specOf, yp.Intrinsic.
-/
import Derived.Test.YgcsalGreatMv28
import Derived.Laws.IdiomCopy
set_option linter.unusedSimpArgs false
set_option linter.unusedVariables false
namespace Go.Own
section
variable {P : Program} {ops : Array Oper} {Q : Exit → Act → World → Prop} {rest : List Oper} {a : Act} {w w0 : World} {X : List Nat} {L : List (Nat × Obj)}
theorem run_copyS {d : Option Tmp} {x y : Operand} {tx ty e ty' : TypeId} {b o dLen dCap b' so sLen sCap s : Nat} {t t' : TypeId} {fr : Nat × Nat} {cur cs : Array Value} {news : List Value} {pos : String} {after : Array Edge} {g : Option (Nat × Bool)}
    (hx : a.eval x = .slice (some ⟨b, o, none⟩) dLen dCap) (hy : a.eval y = .slice (some ⟨b', so, none⟩) sLen sCap) (hu : P.underlying tx = some (.slice e)) (hs : (P.info? e).map (·.size) = some s)
    (hr : w.heap[b]? = some (.cells cur t (0, 0))) (hr' : w.heap[b']? = some (.cells cs t' fr)) (hn : news.length = min sLen dLen * s) (hsrc : ∀ (j : Nat) (v : Value), news[j]? = some v → cs[so + j]? = some v) (hfit : o + news.length ≤ cur.size) (h1 : ∀ v ∈ news, v.oneCell' = true) :
    ∃ w', (execOp a.eval { dst := d, op := .call { callee := .builtin .copy, args := #[x, y], argTypes := #[tx, ty] }, type := ty', pos := pos, after := after, guard := g }).run P w = .ok (.value (.int .i64 (min sLen dLen : Nat))) w' ∧ Kept [b] w w' ∧
      w'.heap[b]? = some (.cells (cur.toList.take o ++ news ++ cur.toList.drop (o + news.length)).toArray t (0, 0)) := by
  have hl := run_loadCells_list (P := P) w ⟨b', so, none⟩ news (fun j v hv => by rw [Addr.add_mid, cell_of_row hr']; exact hsrc j v hv)
  have hst := run_storeCells_at P b o t news 0 cur w hr (by simpa using hfit) h1
  refine ⟨w.setRow b (cur.toList.take o ++ news ++ cur.toList.drop (o + news.length)).toArray, ?_, ⟨rfl, rfl, rfl, by simp [World.setRow], fun k hk hx => setRow_other w b k _ (by simpa using hx)⟩, setRow_heap w b cur _ t _ hr⟩
  rw [BigFrame.execOp_builtin, BigFrame.builtin_copy]
  cases hq : P.info? e with
  | none => simp [hq] at hs
  | some i =>
    have hi : i.size = s := by simpa [hq] using hs
    simp [hx, hy, Builtin.copy_, run_underlying hu, Builtin.lenOf, Builtin.firstCells, sizeOf, typeInfo, hq, hi, goInt]
    have hn2 : (sLen.min dLen) * s = news.length := hn.symm
    rw [hn2, hl]
    simp [hst]
theorem W_copyS {d : Tmp} {x y : Operand} {tx ty e ty' : TypeId} {b o dLen dCap b' so sLen sCap s : Nat} {t t' : TypeId} {fr : Nat × Nat} {cur cs : Array Value} {news : List Value} {pos : String} {after : Array Edge}
    (hx : a.eval x = .slice (some ⟨b, o, none⟩) dLen dCap) (hy : a.eval y = .slice (some ⟨b', so, none⟩) sLen sCap) (hu : P.underlying tx = some (.slice e)) (hs : (P.info? e).map (·.size) = some s)
    (hr : w.heap[b]? = some (.cells cur t (0, 0))) (hr' : w.heap[b']? = some (.cells cs t' fr)) (hn : news.length = min sLen dLen * s) (hsrc : ∀ (j : Nat) (v : Value), news[j]? = some v → cs[so + j]? = some v) (hfit : o + news.length ≤ cur.size) (h1 : ∀ v ∈ news, v.oneCell' = true)
    (k : ∀ w', Kept [b] w w' → w'.heap[b]? = some (.cells (cur.toList.take o ++ news ++ cur.toList.drop (o + news.length)).toArray t (0, 0)) → wpList P ops Q rest (a.put (some d) (.int .i64 (min sLen dLen : Nat))) w') :
    wpList P ops Q ({ dst := some d, op := .call { callee := .builtin .copy, args := #[x, y], argTypes := #[tx, ty] }, type := ty', pos := pos, after := after, guard := none } :: rest) a w := by
  obtain ⟨w', h2, h3, h4⟩ := run_copyS (P := P) (a := a) (d := some d) (ty' := ty') (ty := ty) (pos := pos) (after := after) (g := none) hx hy hu hs hr hr' hn hsrc hfit h1
  exact L_run rfl h2 (k w' h3 h4)
theorem W_copy0 {d : Tmp} {x y : Operand} {tx ty e ty' : TypeId} {p q : Option Addr} {dLen dCap sLen sCap : Nat} {pos : String} {after : Array Edge}
    (hx : a.eval x = .slice p dLen dCap) (hy : a.eval y = .slice q sLen sCap) (hu : P.underlying tx = some (.slice e)) (hs : (P.info? e).map (·.size) = some 1) (hn : Nat.min sLen dLen = 0)
    (k : wpList P ops Q rest (a.put (some d) (.int .i64 0)) w) :
    wpList P ops Q ({ dst := some d, op := .call { callee := .builtin .copy, args := #[x, y], argTypes := #[tx, ty] }, type := ty', pos := pos, after := after, guard := none } :: rest) a w := by
  refine L_run rfl ?_ k
  rw [BigFrame.execOp_builtin, BigFrame.builtin_copy]
  have := run_copy_none (P := P) w tx ty ty' e p q dLen dCap sLen sCap hu hs hn
  simp [hx, hy, this, goInt]
end
end Go.Own
namespace Go.Proofs.YgcsalGreat
open Go.RowKit Go.Own
theorem guard63 : Salg.prog.eqGuardType Salg.prog.depth 63 = false := by kernel_rfl
theorem guard109 : Salg.prog.eqGuardType Salg.prog.depth 109 = false := by kernel_rfl

set_option maxHeartbeats 4000000 in
set_option maxRecDepth 100000 in
theorem bytesOf_all (v : Value) (ds : List Nat) (w : World) (hv : NatV w v ds) : Calls Salg.prog 96 #[v] w fun e w' => ∃ u, e = .returned u ∧ NatV w' u ds ∧ Kept [] w w' := by
  rcases List.eq_nil_or_concat ds with h0 | ⟨l, x, h0⟩
  · subst h0
    obtain ⟨p, c, rfl, _⟩ := hv
    cases p with
    | none =>
      go_enter Salg.func96, Salg.ntmps96
      go_wp2_with ((with_reducible apply L_run); rfl; exact run_isnil rfl rfl Salg.underlying40 guard40; (try simp only [Option.isNone_none, Option.isNone_some]); simp only [Act.put, List.setIfInBounds_toArray, List.set_cons_zero, List.set_cons_succ])
      go_ret
      exact ⟨_, rfl, NatV.nil _, Kept.refl _ _⟩
    | some p =>
      have M := Mem.start w []
      go_enter Salg.func96, Salg.ntmps96
      go_wp2_with (first
        | ((with_reducible apply L_run); rfl; exact run_isnil rfl rfl Salg.underlying40 guard40; (try simp only [Option.isNone_none, Option.isNone_some]); simp only [Act.put, List.setIfInBounds_toArray, List.set_cons_zero, List.set_cons_succ])
        | ((with_reducible apply W_make8 (n := 0) M); rfl; rfl; rfl; rfl; omega; exact Salg.underlying40; exact info5; clear M; intro b1 w2 hb1 M; simp only [Act.put, List.setIfInBounds_toArray, List.set_cons_zero, List.set_cons_succ])
        | ((with_reducible apply W_copy0); rfl; rfl; exact Salg.underlying40; exact size5; rfl; simp only [Act.put, List.setIfInBounds_toArray, List.set_cons_zero, List.set_cons_succ]))
      go_ret
      exact ⟨_, rfl, ⟨_, _, rfl, by simp, by omega, .inl rfl, by intro x hx; cases hx⟩, M.kept⟩
  · exact bytesOf_some v ds w hv (by rw [h0]; simp)

set_option maxHeartbeats 4000000 in
set_option maxRecDepth 100000 in
theorem natOf_all (v : Value) (m : Nat) (w : World) (hv : NumV w v m) : Calls Salg.prog 210 #[v] w fun e w' => ∃ u, e = .returned u ∧ NumV w' u m ∧ Kept [] w w' := by
  obtain ⟨ds, h1, h2, h3⟩ := hv
  have HB := hid (bytesOf_all v ds w h1)
  have H2 := hid h2
  have H3 := hid h3
  clear h1 h2 h3
  go_enter Salg.func210, Salg.ntmps210
  go_wp2_with fail
  refine HB.out.mono ?_
  rintro e w1 ⟨u, rfl, xN, K⟩
  have HN := hid xN
  clear xN
  go_wp2_with fail
  go_ret
  exact ⟨_, rfl, ⟨ds, HN.out, H2.out, H3.out⟩, K⟩

set_option maxHeartbeats 4000000 in
set_option maxRecDepth 100000 in
theorem logsOf_nil (w : World) : Calls Salg.prog 124 #[.slice none 0 0] w fun e w' => e = .returned (.slice none 0 0) ∧ w' = w := by
  go_enter Salg.func124, Salg.ntmps124
  go_wp2_with ((with_reducible apply L_run); rfl; exact run_isnil rfl rfl Salg.underlying63 guard63; (try simp only [Option.isNone_none, Option.isNone_some]); simp only [Act.put, List.setIfInBounds_toArray, List.set_cons_zero, List.set_cons_succ])
  go_ret
  exact ⟨rfl, rfl⟩

set_option maxHeartbeats 4000000 in
set_option maxRecDepth 100000 in
theorem addrsOf_nil (w : World) : Calls Salg.prog 211 #[.slice none 0 0] w fun e w' => e = .returned (.slice none 0 0) ∧ w' = w := by
  go_enter Salg.func211, Salg.ntmps211
  go_wp2_with ((with_reducible apply L_run); rfl; exact run_isnil rfl rfl Salg.underlying109 guard109; (try simp only [Option.isNone_none, Option.isNone_some]); simp only [Act.put, List.setIfInBounds_toArray, List.set_cons_zero, List.set_cons_succ])
  go_ret
  exact ⟨rfl, rfl⟩

set_option maxHeartbeats 4000000 in
set_option maxRecDepth 100000 in
theorem addrsOf_any (v : Value) (l : List (List Nat)) (w : World) (hv : AdsV w v l) (h0 : 0 < l.length) (hl : l.length ≤ 20) : Calls Salg.prog 211 #[v] w fun e w' => ∃ u, e = .returned u ∧ u.oneCell' = true ∧ Kept [] w w' := by
  have M := Mem.start w []
  obtain ⟨g, cap, cur, rfl, hg, hc, hx⟩ : ∃ g cap cur, v = .slice (some ⟨g, 0, none⟩) l.length cap ∧ w.heap[g]? = some (.cells cur 45 (0, 0)) ∧ l.length * 20 ≤ cur.size ∧ cur.toList.take (l.length * 20) = adsL l := by
    rcases hv.own.2 with ⟨_, h1⟩ | ⟨g, cap, cur, h1, h2, h3, h4, h5, h6, h7⟩
    · omega
    · exact ⟨g, cap, cur, h1, h3, by rw [h6]; exact Nat.mul_le_mul_right 20 h4, h7⟩
  have hll : (adsL l).length = l.length * 20 := by rw [← hx]; simp; omega
  have HX : Hid (∀ (j : Nat) (u : Value), (adsL l)[j]? = some u → cur[0 + j]? = some u) := by
    intro j u hj
    have hlt := (List.getElem?_eq_some_iff.1 hj).1
    rw [← hx, List.getElem?_take_of_lt (by omega)] at hj
    rw [Nat.zero_add]
    simpa using hj
  have HON : Hid (∀ v ∈ adsL l, v.oneCell' = true) := by
    intro v hv
    simp only [adsL, List.mem_flatMap, List.mem_map] at hv
    obtain ⟨_, _, x, _, rfl⟩ := hv
    rfl
  generalize l.length = n at *
  have HLE : Hid ((adsL l).length = min n n * 20) := by show _ = _; rw [hll]; simp
  have HFI : Hid (0 + (adsL l).length ≤ ((Array.range (n * 20)).map (fun x => (A8 (List.replicate 20 0)).cells[x % 20]!)).size) := by show _ ≤ _; rw [hll]; simp
  clear hx hv hll hc
  go_enter Salg.func211, Salg.ntmps211
  go_wp2_with (first
    | ((with_reducible apply L_run); rfl; exact run_isnil rfl rfl Salg.underlying109 guard109; (try simp only [Option.isNone_none, Option.isNone_some]); simp only [Act.put, List.setIfInBounds_toArray, List.set_cons_zero, List.set_cons_succ])
    | ((with_reducible apply W_makeV (n := n) (s := 20) (z := A8 (List.replicate 20 0)) M); rfl; rfl; rfl; rfl; omega; exact Salg.underlying109; exact info45; rfl; decide; decide; decide; rfl; clear M; intro b1 w2 hb1 hb2 KB M; clear KB hb2; simp only [Act.put, List.setIfInBounds_toArray, List.set_cons_zero, List.set_cons_succ])
    | ((with_reducible apply W_copyS (b := b1) (o := 0) (b' := g) (so := 0) (s := 20) (news := adsL l) (t := 45)); rfl; rfl; exact Salg.underlying109; exact size45; exact M.r0; exact M.kept.row hg (by simp); exact HLE.out; exact HX.out; exact HFI.out; exact HON.out; intro w4 K hr4; replace M := Mem.callPut (L1 := []) M (Or.inr hb1) K hr4; clear K hr4; simp only [Act.put, List.setIfInBounds_toArray, List.set_cons_zero, List.set_cons_succ]))
  go_ret
  exact ⟨_, rfl, rfl, M.kept⟩

set_option maxHeartbeats 4000000 in
set_option maxRecDepth 100000 in
theorem specOf_two (v u : Value) (ds : List Nat) (w : World) (hv : OasV w v [oaA u, oaB]) (hu : NatV w u ds) (hds : ds ≠ []) :
    Calls Salg.prog 13 #[v] w fun e w' => ∃ (c : Nat) (va tv nv bv cu nv2 bv2 : Value), e = .returned (.pointer (some ⟨c, 0, none⟩)) ∧ w'.heap[c]? = some (.cells (ch0 va tv) 119 (0, 0)) ∧ AcsV w' va [acA nv bv cu, acB nv2 bv2] ∧ NumV w' nv 1 ∧ NumV w' bv 0 ∧ NatV w' cu ds ∧ NumV w' nv2 0 ∧ NumV w' bv2 340282366920938463463374607431768211456 ∧ NumV w' tv 340282366920938463463374607431768211456 ∧ w.heap.size ≤ c ∧ Kept [] w w' := by
  have M := Mem.start w []
  have HN := hid (fun w' (K : Kept [] w w') => new_two v u ds w' (hv.kept K) (hu.kept K) hds)
  clear hv hu hds
  go_enter Salg.func13, Salg.ntmps13
  go_wp2_with fail
  refine (stageEnv_any _).mono ?_
  rintro e w1 ⟨rfl, K⟩
  replace M := M.call K
  clear K
  go_wp2_with fail
  refine (HN.out _ M.kept).mono ?_
  rintro e w2 ⟨c, va, tv, nv, bv, cu, nv2, bv2, rfl, x1, x2, x3, x4, x5, x6, x7, x8, x9, K⟩
  have HX := hid (And.intro x1 (And.intro x2 (And.intro x3 (And.intro x4 (And.intro x5 (And.intro x6 (And.intro x7 (And.intro x8 (Nat.le_trans M.kept.size x9)))))))))
  replace M := M.call K
  clear x1 x2 x3 x4 x5 x6 x7 x8 x9 K HN
  go_wp2_with fail
  go_ret
  obtain ⟨x1, x2, x3, x4, x5, x6, x7, x8, x9⟩ := HX.out
  exact ⟨c, va, tv, nv, bv, cu, nv2, bv2, rfl, x1, x2, x3, x4, x5, x6, x7, x8, x9, M.kept⟩

set_option maxHeartbeats 4000000 in
set_option maxRecDepth 100000 in
theorem intrinsic_any (w : World) : Calls Salg.prog 89 #[.agg (txP nilS).toArray] w fun e w' => ∃ r, e = .returned r ∧ NumV w' r 21000 ∧ Kept [] w w' := by
  have M := Mem.start w []
  go_enter Salg.func89, Salg.ntmps89
  go_wp2_with ((with_reducible apply L_box M); rfl; clear M; intro tb w1 htb M; simp only [Act.put, List.setIfInBounds_toArray, List.set_cons_zero, List.set_cons_succ])
  refine (num_int _ 21000 rfl (by decide) _).mono ?_
  rintro e w2 ⟨r0, rfl, xH0, K⟩
  have H0 := hid xH0
  replace M := M.call K
  clear K xH0
  go_wp2_with ((with_reducible apply W_loadCell); rfl; exact M.r0; exact (show (txP nilS).toArray[107]? = some (nilS) by kernel_rfl); exact Salg.underlying40; rfl; simp only [Act.put, List.setIfInBounds_toArray, List.set_cons_zero, List.set_cons_succ])
  go_loopw [4, 13] (fun zv iv wx => zv = .int .u64 0 ∧ iv = .int .i64 0 ∧ Mem w [] [(tb, .cells (txP nilS).toArray 49 (0, 0))] wx ∧ NumV wx r0 21000) (fun _ _ _ => 0)
  case atStart => exact ⟨rfl, rfl, M, H0.out⟩
  case round =>
    clear M H0
    obtain ⟨rfl, rfl, M, x0⟩ := hrel
    have H0 := hid x0
    clear x0
    go_wp2_with fail
    refine (num_int _ 4 rfl (by decide) _).mono ?_
    rintro e w3 ⟨r1, rfl, xH1, K⟩
    have H1 := hid xH1
    replace H0 := hid (H0.out.kept K)
    replace M := M.call K
    clear K xH1
    go_wp2_with fail
    refine (num_int _ 0 rfl (by decide) _).mono ?_
    rintro e w4 ⟨r2, rfl, xH2, K⟩
    have H2 := hid xH2
    replace H0 := hid (H0.out.kept K)
    replace H1 := hid (H1.out.kept K)
    replace M := M.call K
    clear K xH2
    go_wp2_with fail
    refine (mul_num r1 r2 4 0 _ H1.out H2.out (by decide) (by decide)).mono ?_
    rintro e w5 ⟨r3, rfl, xH3, K⟩
    have H3 := hid xH3
    replace H0 := hid (H0.out.kept K)
    replace M := M.call K
    clear K xH3
    go_wp2_with fail
    refine (add_num r0 r3 21000 (4 * 0) _ H0.out H3.out (by decide) (by decide)).mono ?_
    rintro e w6 ⟨r4, rfl, xH4, K⟩
    have H4 := hid xH4
    replace M := M.call K
    clear K xH4
    go_wp2_with fail
    clear H0 H1 H2 H3
    refine S_region (by kernel_rfl) ?_
    replace H4 := hid (H4.out.kept (Kept.refl [] _).drew)
    refine E_stage 0 12 [0, 2, 3, 4, 5, 6, 7, 1, 8, 9, 10, 11] (by kernel_rfl) M.drew ?_
    clear M
    simp only [List.filterMap_cons, List.filterMap_nil, List.getElem?_cons_zero, List.getElem?_cons_succ]
    ((with_reducible apply E_run); rfl; rfl; (intro w M; go_simp; (try go_ints); (try simp only [↓IntWalk.iteOmega]); (try with_reducible rfl)); simp only [Act.put, List.setIfInBounds_toArray, List.set_cons_zero, List.set_cons_succ])
    ((with_reducible apply E_run); rfl; rfl; (intro w M; go_simp; (try go_ints); (try simp only [↓IntWalk.iteOmega]); (try with_reducible rfl)); simp only [Act.put, List.setIfInBounds_toArray, List.set_cons_zero, List.set_cons_succ])
    ((with_reducible apply E_run); rfl; rfl; (intro w M; exact run_loadCell (M.r0) rfl (show (txP nilS).toArray[107]? = some (nilS) by kernel_rfl) Salg.underlying40 rfl); simp only [Act.put, List.setIfInBounds_toArray, List.set_cons_zero, List.set_cons_succ])
    ((with_reducible apply E_run); rfl; rfl; (intro w M; go_simp; (try go_ints); (try simp only [↓IntWalk.iteOmega]); (try with_reducible rfl)); simp only [Act.put, List.setIfInBounds_toArray, List.set_cons_zero, List.set_cons_succ])
    ((with_reducible apply E_run); rfl; rfl; (intro w M; go_simp; (try go_ints); (try simp only [↓IntWalk.iteOmega]); (try with_reducible rfl)); simp only [Act.put, List.setIfInBounds_toArray, List.set_cons_zero, List.set_cons_succ])
    ((with_reducible apply E_run); rfl; rfl; (intro w M; go_simp; (try go_ints); (try simp only [↓IntWalk.iteOmega]); (try with_reducible rfl)); simp only [Act.put, List.setIfInBounds_toArray, List.set_cons_zero, List.set_cons_succ])
    ((with_reducible apply E_run); rfl; rfl; (intro w M; go_simp; (try go_ints); (try simp only [↓IntWalk.iteOmega]); (try with_reducible rfl)); simp only [Act.put, List.setIfInBounds_toArray, List.set_cons_zero, List.set_cons_succ])
    refine E_call rfl Salg.func87 (by kernel_rfl) (by kernel_rfl) (args := [.int .u64 16]) rfl ?_
    intro w1 K M
    replace H4 := hid (H4.out.kept K)
    clear K
    refine (num_int _ 16 rfl (by decide) _).mono ?_
    rintro e w7 ⟨r5, rfl, xH5, K⟩
    have H5 := hid xH5
    clear xH5
    replace H4 := hid (H4.out.kept K)
    replace M := M.call K
    refine ⟨_, rfl, trivial, M, ?_⟩
    clear K
    simp only [Act.put, List.setIfInBounds_toArray, List.set_cons_zero, List.set_cons_succ]
    refine E_call rfl Salg.func87 (by kernel_rfl) (by kernel_rfl) (args := [.int .u64 0]) rfl ?_
    intro w1 K M
    replace H4 := hid (H4.out.kept K)
    replace H5 := hid (H5.out.kept K)
    clear K
    refine (num_int _ 0 rfl (by decide) _).mono ?_
    rintro e w8 ⟨r6, rfl, xH6, K⟩
    have H6 := hid xH6
    clear xH6
    replace H4 := hid (H4.out.kept K)
    replace H5 := hid (H5.out.kept K)
    replace M := M.call K
    refine ⟨_, rfl, trivial, M, ?_⟩
    clear K
    simp only [Act.put, List.setIfInBounds_toArray, List.set_cons_zero, List.set_cons_succ]
    refine E_call rfl Salg.func70 (by kernel_rfl) (by kernel_rfl) (args := [r5, r6]) rfl ?_
    intro w1 K M
    replace H4 := hid (H4.out.kept K)
    replace H5 := hid (H5.out.kept K)
    replace H6 := hid (H6.out.kept K)
    clear K
    refine (mul_num r5 r6 16 0 _ H5.out H6.out (by decide) (by decide)).mono ?_
    rintro e w9 ⟨r7, rfl, xH7, K⟩
    have H7 := hid xH7
    clear xH7
    replace H4 := hid (H4.out.kept K)
    replace H5 := hid (H5.out.kept K)
    replace H6 := hid (H6.out.kept K)
    replace M := M.call K
    refine ⟨_, rfl, trivial, M, ?_⟩
    clear K
    simp only [Act.put, List.setIfInBounds_toArray, List.set_cons_zero, List.set_cons_succ]
    refine E_call rfl Salg.func68 (by kernel_rfl) (by kernel_rfl) (args := [r4, r7]) rfl ?_
    intro w1 K M
    replace H4 := hid (H4.out.kept K)
    replace H7 := hid (H7.out.kept K)
    clear K
    refine (add_num r4 r7 21000 (16 * 0) _ H4.out H7.out (by decide) (by decide)).mono ?_
    rintro e w10 ⟨r8, rfl, xH8, K⟩
    have H8 := hid xH8
    clear xH8
    replace H4 := hid (H4.out.kept K)
    replace H7 := hid (H7.out.kept K)
    replace M := M.call K
    refine ⟨_, rfl, trivial, M, ?_⟩
    clear K
    simp only [Act.put, List.setIfInBounds_toArray, List.set_cons_zero, List.set_cons_succ]
    ((with_reducible apply E_run); rfl; rfl; (intro w M; go_simp; (try go_ints); (try simp only [↓IntWalk.iteOmega]); (try with_reducible rfl)); simp only [Act.put, List.setIfInBounds_toArray, List.set_cons_zero, List.set_cons_succ])
    refine E_nil ?_
    intro w11 K M
    replace H8 := hid (H8.out.kept K)
    clear K
    refine S_done ?_
    go_wp2_with ((with_reducible apply W_loadCell); rfl; exact M.r0; exact (show (txP nilS).toArray[173]? = some (nilS) by kernel_rfl); exact Salg.underlying47; rfl; simp only [Act.put, List.setIfInBounds_toArray, List.set_cons_zero, List.set_cons_succ])
    go_loopw [3, 42] (fun rv iv wx => rv = r8 ∧ iv = .int .i64 0 ∧ Mem w [] [(tb, .cells (txP nilS).toArray 49 (0, 0))] wx ∧ NumV wx r8 21000) (fun _ _ _ => 0)
    case atStart => exact ⟨rfl, rfl, M, H8.out⟩
    case round =>
      clear M H8
      obtain ⟨rfl, rfl, M, x8⟩ := hrel
      have H8 := hid x8
      clear x8
      go_wp2_with ((with_reducible apply W_loadCell); rfl; exact M.r0; exact (show (txP nilS).toArray[40]? = some (.bool false) by kernel_rfl); exact Salg.underlying4; rfl; simp only [Act.put, List.setIfInBounds_toArray, List.set_cons_zero, List.set_cons_succ])
      go_ret
      exact ⟨_, rfl, H8.out, M.kept⟩
end Go.Proofs.YgcsalGreat

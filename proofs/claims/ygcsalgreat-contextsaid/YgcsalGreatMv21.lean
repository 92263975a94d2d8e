/-
  The walks of (*yp.State).plain at PUSH, DUP, SWAP and POP; (*yp.State).effect at POP.
-/
import Derived.Test.YgcsalGreatMv20
import Derived.Test.YgcsalGreatMv10
set_option linter.unusedSimpArgs false
set_option linter.unusedVariables false
namespace Go.Own
/-- The operands, the top first, that are laid so far. -/
def argsL (xs : List Value) (i t : Nat) : List Value := xs.reverse.take i ++ List.replicate (t - i) (.slice none 0 0)
theorem argsL_zero (xs : List Value) (t : Nat) : argsL xs 0 t = List.replicate t (.slice none 0 0) := by simp [argsL]
theorem argsL_all (xs : List Value) (t : Nat) : argsL xs t t = xs.reverse.take t := by simp [argsL]
theorem argsL_length {xs : List Value} {i t : Nat} (h : i ≤ xs.length) (hi : i ≤ t) : (argsL xs i t).length = t := by simp [argsL]; omega
theorem argsL_set {xs : List Value} {i t : Nat} {u : Value} (hi : i < t) (hx : i < xs.length) (hu : xs[xs.length - 1 - i]? = some u) : (argsL xs i t).toArray.setIfInBounds i u = (argsL xs (i + 1) t).toArray := by
  have hr : xs.reverse[i]? = some u := by rw [List.getElem?_reverse hx]; exact hu
  have hlt : i < xs.reverse.length := by simpa using hx
  rw [List.setIfInBounds_toArray]
  congr 1
  apply List.ext_getElem?
  intro k
  rw [List.getElem?_set, argsL_length (by omega) (by omega)]
  unfold argsL
  by_cases hk : i = k
  · subst hk
    rw [if_pos rfl, if_pos hi, List.getElem?_append_left (by simp; omega), List.getElem?_take_of_lt (by omega), hr]
  · rw [if_neg hk]
    by_cases hki : k < i
    · rw [List.getElem?_append_left (by simp; omega), List.getElem?_append_left (by simp; omega), List.getElem?_take_of_lt hki, List.getElem?_take_of_lt (by omega)]
    · rw [List.getElem?_append_right (by simp; omega), List.getElem?_append_right (by simp; omega)]
      simp only [List.length_take, List.length_reverse, List.getElem?_replicate]
      rw [Nat.min_eq_left (by omega), Nat.min_eq_left (by omega)]
      by_cases hkt : k < t
      · rw [if_pos (by omega), if_pos (by omega)]
      · rw [if_neg (by omega), if_neg (by omega)]
theorem args_get {xs : List Value} {i t : Nat} (hi : i < t) (ht : t ≤ xs.length) : (xs.reverse.take t)[i]? = xs[xs.length - 1 - i]? := by
  rw [List.getElem?_take_of_lt hi, List.getElem?_reverse (by omega)]
theorem oneCell_mem {xs : List Value} (h : ∀ u ∈ xs, u.oneCell' = true) {i : Nat} {u : Value} (hu : xs[i]? = some u) : u.oneCell' = true := h u (List.mem_of_getElem? hu)
theorem one_cells {u : Value} (h : u.oneCell' = true) : u.cells = #[u] := by
  cases u <;> simp_all [Value.cells, Value.oneCell']
/-- A row whose cell 8 is a slice is no row of bytes. -/
theorem not_bytes_at {cs : Array Value} {tc : TypeId} {i : Nat} {p : Option Addr} {n m : Nat} (h0 : cs[i]? = some (.slice p n m)) : ∀ t l, Obj.cells cs tc (0, 0) ≠ R8 t l := by
  intro t l e
  cases e
  simp at h0
theorem RowV.one {w : World} {e : TypeId} {v : Value} {xs : List Value} (h : RowV w e v xs) : v.oneCell' = true := by
  rcases h with ⟨rfl, _⟩ | ⟨g, cap, cur, rfl, _⟩ <;> rfl
theorem TightV.row {w : World} {e : TypeId} {v : Value} {xs : List Value} (h : TightV w e v xs) : RowV w e v xs := by
  rcases h with h | ⟨g, cur, e1, e2, e3⟩
  · exact .inl h
  · exact .inr ⟨g, _, cur, e1, e2, Nat.le_refl _, e3⟩
/-- The operand list of SWAP, laid back so far. -/
def accL (xs : List Value) (t i : Nat) (top : Value) : List Value := xs.take (xs.length - t) ++ top :: (xs.drop (xs.length - t + 1)).take (t - 2 - i)
theorem accL_step {xs : List Value} {t i : Nat} {top u : Value} (h0 : 0 < i) (hi : i ≤ t - 2) (ht : t ≤ xs.length) (hu : xs[xs.length - 1 - i]? = some u) : accL xs t i top ++ [u] = accL xs t (i - 1) top := by
  unfold accL
  rw [List.append_assoc, List.cons_append]
  congr 2
  rw [show t - 2 - (i - 1) = (t - 2 - i) + 1 by omega, List.take_add_one, List.getElem?_drop, show xs.length - t + 1 + (t - 2 - i) = xs.length - 1 - i by omega, hu]
  rfl
/-- The stack with its top and the word t - 1 below it swapped. -/
def swapL {α : Type} (xs : List α) (t : Nat) : List α := xs.take (xs.length - t) ++ (xs.drop (xs.length - 1) ++ (xs.drop (xs.length - t + 1)).take (t - 2)) ++ (xs.drop (xs.length - t)).take 1
theorem accL_end {xs : List Value} {t : Nat} {top u : Value} (h2 : 2 ≤ t) (ht : t ≤ xs.length) (h0 : xs[xs.length - 1]? = some top) (hu : xs[xs.length - t]? = some u) : accL xs t 0 top ++ [u] = swapL xs t := by
  have e1 : xs.drop (xs.length - 1) = [top] := by
    have hlt : xs.length - 1 < xs.length := by omega
    rw [List.drop_eq_getElem_cons hlt, List.drop_of_length_le (by omega)]
    rw [List.getElem?_eq_getElem hlt] at h0
    simpa using h0
  have e2 : (xs.drop (xs.length - t)).take 1 = [u] := by
    have hlt : xs.length - t < xs.length := by omega
    rw [List.drop_eq_getElem_cons hlt]
    rw [List.getElem?_eq_getElem hlt] at hu
    simp only [Option.some.injEq] at hu
    rw [hu]
    rfl
  simp [accL, swapL, e1, e2]
theorem own_push {w : World} {base e n k : Nat} {v u : Value} {xs : List Value} (h : w.ownsRow base e 1 v k (xs.take n ++ [u])) (hn : n = xs.length) : RowV w e v (xs ++ [u]) := by
  subst hn
  have := RowV.own h
  simpa using this
theorem one_news (u : Value) : ∀ (j : Nat) (x : Value), [u][j]? = some x → #[u][0 + j]? = some x := by intro j x hj; simpa using hj
theorem one_one {u : Value} (h : u.oneCell' = true) : ∀ x ∈ [u], x.oneCell' = true := by intro x hx; simp at hx; subst hx; exact h
theorem own_base {w : World} {base e s n : Nat} {v : Value} {xs : List Value} (h : w.ownsRow base e s v (n + 1) xs) : base ≤ w.heap.size := by
  rcases h.2 with ⟨_, h1⟩ | ⟨g, cap, cur, h1, h2, h3, h4⟩
  · omega
  · have := (Array.getElem?_eq_some_iff.1 h3).1
    omega
theorem own_new {w : World} {base e s n b : Nat} {v : Value} {xs : List Value} (h : w.ownsRow base e s v n xs) (hb : w.heap.size ≤ b) : v.ownBlock ≠ some b := by
  intro e
  have := (own_block h e).2
  omega
theorem apart1 {b : Nat} {v : Value} {o : Obj} (h : v.ownBlock ≠ some b) : ∀ p ∈ [(b, o)], v.ownBlock ≠ some p.1 := by
  intro p hp
  simp at hp
  subst hp
  exact h
theorem RowV.keptC {w w' : World} {e : TypeId} {v : Value} {xs : List Value} {c tc : Nat} {cs : Array Value} (h : RowV w e v xs) (k : Kept [c] w w') (hr : w.heap[c]? = some (.cells cs tc (0, 0))) (ht : tc ≠ e) : RowV w' e v xs := by
  rcases h with h | ⟨g, cap, cur, h1, h2, h3⟩
  · exact .inl h
  · exact .inr ⟨g, cap, cur, h1, k.row h2 (row_ne hr h2 (by rintro h; cases h; exact ht rfl)), h3⟩
end Go.Own
namespace Go.Proofs.YgcsalGreat
open Go.RowKit Go.Own

set_option maxHeartbeats 4000000 in
set_option maxRecDepth 100000 in
theorem effect_pop (st fv : Value) (g c : Nat) (cs : Array Value) (u : Value) (w : World) (hg : w.heap[g]? = some (.cells cs 89 (0, 0))) (hu : cs[0]? = some u) :
    Calls Salg.prog 197 #[st, fv, .int .u8 80, .slice (some ⟨g, 0, none⟩) 1 c] w fun e w' => e = .returned (.bool true) ∧ w' = w := by
  go_enter Salg.func197, Salg.ntmps197
  go_wp2_with fail
  refine (operand_in 0 g 1 c cs u _ hg (by decide) (by decide) hu).mono ?_
  rintro e w1 ⟨rfl, hw⟩
  replace hw := hw.symm
  subst hw
  go_wp2_with fail
  refine (operand_out 1 _ _ _ _ (by decide)).mono ?_
  rintro e w1 ⟨rfl, hw⟩
  replace hw := hw.symm
  subst hw
  go_wp2_with fail
  refine (operand_out 2 _ _ _ _ (by decide)).mono ?_
  rintro e w1 ⟨rfl, hw⟩
  replace hw := hw.symm
  subst hw
  go_wp2_with fail
  go_ret
  exact ⟨rfl, rfl⟩
theorem size140 : (Salg.prog.info? 140).map (·.size) = some 1 := by kernel_rfl

set_option maxHeartbeats 4000000 in
set_option maxRecDepth 100000 in
theorem plain_pop (st : Value) (fb m : Nat) (fs : Array Value) (pv sv : Value) (xs : List Value) (w : World) (hr : w.heap[fb]? = some (.cells fs 142 (0, 0))) (h3 : fs[3]? = some pv) (hp : NumV w pv m) (h8 : fs[8]? = some sv) (hs : RowV w 89 sv xs) (h1 : ∀ u ∈ xs, u.oneCell' = true) (hl : xs.length ≤ 40) (hlt : 1 ≤ xs.length) (hm : m ≤ 1000) :
    Calls Salg.prog 120 #[st, .pointer (some ⟨fb, 0, none⟩), .int .u8 80] w fun e w' => ∃ r v' pv', e = .returned r ∧ Kept [fb] w w' ∧ w'.heap[fb]? = some (.cells ((fs.setIfInBounds 8 v').setIfInBounds 3 pv') 142 (0, 0)) ∧ RowV w' 89 v' (xs.take (xs.length - 1)) ∧ NumV w' pv' (m + (1 + 0)) := by
  have M := Mem.start w []
  have HK := hid (opk_pop)
  have HP := hid hp
  have HS := hid hs
  have H1 := hid h1
  obtain ⟨p, cap, rfl⟩ : ∃ p cap, sv = .slice p xs.length cap := by
    rcases hs with ⟨rfl, rfl⟩ | ⟨g, cap, cur, rfl, _⟩
    · exact ⟨none, 0, rfl⟩
    · exact ⟨_, _, rfl⟩
  have HNB := hid (not_bytes_at (tc := 142) h8)
  have HCT := hid (HS.out.cut (xs.length - 1) (by omega))
  have hcap := HCT.out.1
  have HT : Hid (TightV w 89 (.slice p (xs.length - 1) (xs.length - 1)) (xs.take (xs.length - 1))) := HCT.out.2
  have HA := hid (fun w' (K : Kept [] w w') i (hi : i < xs.length) u hu => arg_any fb fs _ u xs i w' (K.row hr (by simp)) h8 (HS.out.kept K) hi hu (by omega))
  have HAS := hid (fun i u (hi : i < 1) (hx : i < xs.length) hu => argsL_set (t := 1) (u := u) hi hx hu)
  have HAL := hid (fun i (h : i ≤ xs.length) (hi : i ≤ 1) => argsL_length (t := 1) h hi)
  have HAZ := hid (argsL_zero xs (1))
  have HAA := hid (argsL_all xs (1))
  have hsz8 : 8 < fs.size := (Array.getElem?_eq_some_iff.1 h8).1
  clear hp hs h1 HCT
  have HXS : Hid (∀ i, i < xs.length → ∃ u, xs[xs.length - 1 - i]? = some u) := fun i hi => ⟨xs[xs.length - 1 - i], List.getElem?_eq_getElem (by omega)⟩
  obtain ⟨n, hn⟩ : ∃ n, n = xs.length := ⟨_, rfl⟩
  rw [← hn] at HT HA HAS HAL HXS hcap hl hlt h8
  have HN := hid hn
  clear hn
  go_enter Salg.func120, Salg.ntmps120
  go_wp2_with fail
  refine (HK.out.ar _).mono ?_
  rintro e w1 ⟨rfl, hw⟩
  replace hw := hw.symm
  subst hw
  go_wp2_with ((with_reducible apply W_makeV (n := 1) (s := 1) (cs := (List.replicate (1) (.slice none 0 0)).toArray) M); rfl; rfl; (first | rfl | omega); (first | rfl | omega); (first | decide | omega); exact Salg.underlying140; exact info89; rfl; decide; decide; decide; exact range1 _ _ rfl; clear M; intro ab w2 hab hab2 K M; rw [← HAZ.out] at M; clear K; simp only [Act.put, List.setIfInBounds_toArray, List.set_cons_zero, List.set_cons_succ])
  go_loopw [10, 24] (fun _ iv wr => ∃ i : Nat, i ≤ 1 ∧ iv = .int .i64 i ∧ Mem w [] [(ab, .cells (argsL xs i (1)).toArray 89 (0, 0))] wr) (fun _ iv _ => (((1 : Nat) : Int) - intOf iv).toNat)
  case atStart => exact ⟨0, by omega, rfl, M⟩
  case round =>
    clear M
    obtain ⟨i, hi, rfl, M⟩ := hrel
    rcases Nat.lt_or_ge i (1) with hlt2 | hge
    · obtain ⟨u, hu⟩ := HXS.out i (by omega)
      have HAu := hid (HA.out _ M.kept i (by omega) u hu)
      have HAs := HAS.out i u hlt2 (by omega) hu
      have HAl := HAL.out i (by omega) (by omega)
      have hu1 := oneCell_mem H1.out hu
      have hsz3 : i < (argsL xs i (1)).toArray.size := by rw [List.size_toArray, HAl]; exact hlt2
      go_wp2_with fail
      refine (HAu.out).mono ?_
      rintro e w3 ⟨rfl, K⟩
      replace M := M.call K
      clear K
      go_wp2_with ((with_reducible apply W_stV (b := ab) (o := i) (v := u)); rfl; rfl; exact hu1; exact M.r0; exact size89; exact hsz3; intro w4 K hr4; rw [HAs] at hr4; replace M := Mem.callPut (L1 := []) M (Or.inr hab) K hr4; clear K hr4; simp only [List.nil_append] at M)
      go_roundw
      case rel => exact ⟨i + 1, by omega, by go_num, M⟩
      case measure => simp [intOf]; omega
    · have hit : 1 = i := by omega
      subst hit
      clear hge HA HAS HAL HXS
      rw [HAA.out] at M
      have HG := hid (fun i (hi : i < 1) => args_get (t := 1) (i := i) hi (by rw [← HN.out]; exact hlt))
      rw [← HN.out] at HG
      go_wp2_with fail
      refine S_region (by kernel_rfl) ?_
      refine E_stage 0 11 [0, 1, 2, 3, 4, 5, 6, 7, 8, 9, 10] (by kernel_rfl) M.drew ?_
      clear M
      simp only [List.filterMap_cons, List.filterMap_nil, List.getElem?_cons_zero, List.getElem?_cons_succ]
      ((with_reducible apply E_run); rfl; rfl; (intro w M; go_simp; (try go_ints); (try simp only [↓IntWalk.iteOmega]); (try with_reducible rfl)); simp only [Act.put, List.setIfInBounds_toArray, List.set_cons_zero, List.set_cons_succ])
      ((with_reducible apply E_run); rfl; rfl; (intro w M; go_simp; (try go_ints); (try simp only [↓IntWalk.iteOmega]); (try with_reducible rfl)); simp only [Act.put, List.setIfInBounds_toArray, List.set_cons_zero, List.set_cons_succ])
      ((with_reducible apply E_run); rfl; rfl; (intro w M; go_simp; (try go_ints); (try simp only [↓IntWalk.iteOmega]); (try with_reducible rfl)); simp only [Act.put, List.setIfInBounds_toArray, List.set_cons_zero, List.set_cons_succ])
      ((with_reducible apply E_run); rfl; rfl; (intro w M; exact run_loadCell (M.kept.row hr (by simp)) rfl h3 Salg.underlying89 rfl); simp only [Act.put, List.setIfInBounds_toArray, List.set_cons_zero, List.set_cons_succ])
      ((with_reducible apply E_run); rfl; rfl; (intro w M; go_simp; (try go_ints); (try simp only [↓IntWalk.iteOmega]); (try with_reducible rfl)); simp only [Act.put, List.setIfInBounds_toArray, List.set_cons_zero, List.set_cons_succ])
      refine E_call rfl Salg.func195 (by kernel_rfl) (by kernel_rfl) (args := [.int .u8 (80 : Int)]) rfl ?_
      intro w1 K M
      clear K
      refine (HK.out.im _).mono ?_
      rintro e w4 ⟨rfl, hw⟩
      replace hw := hw.symm
      subst hw
      refine ⟨_, rfl, trivial, M, ?_⟩
      simp only [Act.put, List.setIfInBounds_toArray, List.set_cons_zero, List.set_cons_succ]
      ((with_reducible apply E_run); rfl; rfl; (intro w M; go_simp; (try go_ints); (try simp only [↓IntWalk.iteOmega]); (try with_reducible rfl)); simp only [Act.put, List.setIfInBounds_toArray, List.set_cons_zero, List.set_cons_succ])
      ((with_reducible apply E_run); rfl; rfl; (intro w M; go_simp; (try go_ints); (try simp only [↓IntWalk.iteOmega]); (try with_reducible rfl)); simp only [Act.put, List.setIfInBounds_toArray, List.set_cons_zero, List.set_cons_succ])
      refine E_call rfl Salg.func87 (by kernel_rfl) (by kernel_rfl) (args := [.int .u64 (((1 + 0 : Nat)) : Int)]) rfl ?_
      intro w1 K M
      clear K
      refine (num_int _ (1 + 0) (by rfl) (by omega) _).mono ?_
      rintro e w5 ⟨r1, rfl, xHR1, K⟩
      have HR1 := hid xHR1
      clear xHR1
      replace M := M.call K
      refine ⟨_, rfl, trivial, M, ?_⟩
      clear K
      simp only [Act.put, List.setIfInBounds_toArray, List.set_cons_zero, List.set_cons_succ]
      refine E_call rfl Salg.func68 (by kernel_rfl) (by kernel_rfl) (args := [pv, r1]) rfl ?_
      intro w1 K M
      replace HR1 := hid (HR1.out.kept K)
      clear K
      refine (add_num _ _ _ _ _ (HP.out.kept M.kept) HR1.out (by omega) (by omega)).mono ?_
      rintro e w6 ⟨r2, rfl, xHR2, K⟩
      have HR2 := hid xHR2
      clear xHR2
      replace HR1 := hid (HR1.out.kept K)
      replace M := M.call K
      refine ⟨_, rfl, trivial, M, ?_⟩
      clear K
      simp only [Act.put, List.setIfInBounds_toArray, List.set_cons_zero, List.set_cons_succ]
      ((with_reducible apply E_run); rfl; rfl; (intro w M; go_simp; (try go_ints); (try simp only [↓IntWalk.iteOmega]); (try with_reducible rfl)); simp only [Act.put, List.setIfInBounds_toArray, List.set_cons_zero, List.set_cons_succ])
      refine E_nil ?_
      intro w9 K M
      replace HR2 := hid (HR2.out.kept K)
      clear K
      refine S_done ?_
      go_wp2_with fail
      refine S_region (by kernel_rfl) ?_
      replace HR2 := hid (HR2.out.kept (Kept.refl [] _).drew)
      refine E_stage 0 20 [0, 1, 2, 3, 4, 5, 6, 7, 8, 9, 10, 11, 12, 13, 14, 15, 16, 17, 18, 19] (by kernel_rfl) M.drew ?_
      clear M
      simp only [List.filterMap_cons, List.filterMap_nil, List.getElem?_cons_zero, List.getElem?_cons_succ]
      ((with_reducible apply E_run); rfl; rfl; (intro w M; go_simp; (try go_ints); (try simp only [↓IntWalk.iteOmega]); (try with_reducible rfl)); simp only [Act.put, List.setIfInBounds_toArray, List.set_cons_zero, List.set_cons_succ])
      ((with_reducible apply E_run); rfl; rfl; (intro w M; go_simp; (try go_ints); (try simp only [↓IntWalk.iteOmega]); (try with_reducible rfl)); simp only [Act.put, List.setIfInBounds_toArray, List.set_cons_zero, List.set_cons_succ])
      ((with_reducible apply E_run); rfl; rfl; (intro w M; go_simp; (try go_ints); (try simp only [↓IntWalk.iteOmega]); (try with_reducible rfl)); simp only [Act.put, List.setIfInBounds_toArray, List.set_cons_zero, List.set_cons_succ])
      ((with_reducible apply E_run); rfl; rfl; (intro w M; exact run_loadCell (M.kept.row hr (by simp)) rfl h8 Salg.underlying140 rfl); simp only [Act.put, List.setIfInBounds_toArray, List.set_cons_zero, List.set_cons_succ])
      ((with_reducible apply E_run); rfl; rfl; (intro w M; go_simp; (try go_ints); (try simp only [↓IntWalk.iteOmega]); (try with_reducible rfl)); simp only [Act.put, List.setIfInBounds_toArray, List.set_cons_zero, List.set_cons_succ])
      ((with_reducible apply E_run); rfl; rfl; (intro w M; go_simp; (try go_ints); (try simp only [↓IntWalk.iteOmega]); (try with_reducible rfl)); simp only [Act.put, List.setIfInBounds_toArray, List.set_cons_zero, List.set_cons_succ])
      ((with_reducible apply E_run); rfl; rfl; (intro w M; go_simp; (try go_ints); (try simp only [↓IntWalk.iteOmega]); (try with_reducible rfl)); simp only [Act.put, List.setIfInBounds_toArray, List.set_cons_zero, List.set_cons_succ])
      ((with_reducible apply E_run); rfl; rfl; (intro w M; exact run_loadCell (M.kept.row hr (by simp)) rfl h8 Salg.underlying140 rfl); simp only [Act.put, List.setIfInBounds_toArray, List.set_cons_zero, List.set_cons_succ])
      ((with_reducible apply E_run); rfl; rfl; (intro w M; go_simp; (try go_ints); (try simp only [↓IntWalk.iteOmega]); (try with_reducible rfl)); simp only [Act.put, List.setIfInBounds_toArray, List.set_cons_zero, List.set_cons_succ])
      ((with_reducible apply E_run); rfl; rfl; (intro w M; go_simp; (try go_ints); (try simp only [↓IntWalk.iteOmega]); (try with_reducible rfl)); simp only [Act.put, List.setIfInBounds_toArray, List.set_cons_zero, List.set_cons_succ])
      ((with_reducible apply E_run); rfl; rfl; (intro w M; go_simp; (try go_ints); (try simp only [↓IntWalk.iteOmega]); (try with_reducible rfl)); simp only [Act.put, List.setIfInBounds_toArray, List.set_cons_zero, List.set_cons_succ])
      ((with_reducible apply E_run); rfl; rfl; (intro w M; go_simp; (try go_ints); (try simp only [↓IntWalk.iteOmega]); (try with_reducible rfl)); simp only [Act.put, List.setIfInBounds_toArray, List.set_cons_zero, List.set_cons_succ])
      ((with_reducible apply E_run); rfl; rfl; (intro w M; go_simp; (try go_ints); (try simp only [↓IntWalk.iteOmega]); (try with_reducible rfl)); simp only [Act.put, List.setIfInBounds_toArray, List.set_cons_zero, List.set_cons_succ])
      ((with_reducible apply E_run); rfl; rfl; (intro w M; go_simp; (try go_ints); (try simp only [↓IntWalk.iteOmega]); (try with_reducible rfl)); simp only [Act.put, List.setIfInBounds_toArray, List.set_cons_zero, List.set_cons_succ])
      ((with_reducible apply E_run); rfl; rfl; (intro w M; exact run_loadCell (M.kept.row hr (by simp)) rfl h8 Salg.underlying140 rfl); simp only [Act.put, List.setIfInBounds_toArray, List.set_cons_zero, List.set_cons_succ])
      ((with_reducible apply E_run); rfl; rfl; (intro w M; go_simp; (try go_ints); (try simp only [↓IntWalk.iteOmega]); (try with_reducible rfl)); simp only [Act.put, List.setIfInBounds_toArray, List.set_cons_zero, List.set_cons_succ])
      ((with_reducible apply E_run); rfl; rfl; (intro w M; go_simp; (try go_ints); (try simp only [↓IntWalk.iteOmega]); (try with_reducible rfl)); simp only [Act.put, List.setIfInBounds_toArray, List.set_cons_zero, List.set_cons_succ])
      ((with_reducible apply E_run); rfl; rfl; (intro w M; go_simp; (try go_ints); (try simp only [↓IntWalk.iteOmega]); (try with_reducible rfl)); simp only [Act.put, List.setIfInBounds_toArray, List.set_cons_zero, List.set_cons_succ])
      ((with_reducible apply E_run); rfl; rfl; (intro w M; exact run_slice3 (n := n - 1) rfl rfl rfl (by omega) (by omega) Salg.underlying140 ⟨1, size89⟩ hcap); simp only [Act.put, List.setIfInBounds_toArray, List.set_cons_zero, List.set_cons_succ])
      ((with_reducible apply E_run); rfl; rfl; (intro w M; go_simp; (try go_ints); (try simp only [↓IntWalk.iteOmega]); (try with_reducible rfl)); simp only [Act.put, List.setIfInBounds_toArray, List.set_cons_zero, List.set_cons_succ])
      refine E_nil ?_
      intro w10 K M
      replace HR2 := hid (HR2.out.kept K)
      clear K
      refine S_done ?_
      go_wp2_with fail
      obtain ⟨u0, hu0⟩ : ∃ u, (xs.reverse.take 1)[0]? = some u := by
        rw [HG.out 0 (by decide)]
        exact ⟨xs[n - 1 - 0]'(by rw [← HN.out]; omega), List.getElem?_eq_getElem (by rw [← HN.out]; omega)⟩
      refine (effect_pop _ _ ab 1 _ u0 _ M.r0 (by simpa using hu0)).mono ?_
      rintro e w11 ⟨rfl, hw⟩
      replace hw := hw.symm
      subst hw
      have HVV := hid (HT.out.kept M.kept).row
      go_wp2_with (first
        | ((with_reducible apply W_stV (b := fb) (o := 8) (v := (Value.slice p (n - 1) (n - 1)))); rfl; rfl; exact HVV.out.one; exact M.kept.row hr (by simp); exact size140; exact hsz8; intro w11 K1 hr11)
        | ((with_reducible apply W_stV (b := fb) (o := 3) (v := r2)); rfl; rfl; exact HR2.out.one; exact hr11; exact size89; (simp; omega); intro w12 K2 hr12))
      go_end0
      have hrow := M.kept.row hr (by simp)
      have KK := K1.trans K2
      exact ⟨_, (Value.slice p (n - 1) (n - 1)), r2, rfl, (M.kept.mono (by simp)).trans KK, hr12, (by first | exact HVV.out.keptC KK hrow (by decide) | (rw [← HN.out]; exact HVV.out.keptC KK hrow (by decide))), HR2.out.keptC KK hrow HNB.out⟩
end Go.Proofs.YgcsalGreat

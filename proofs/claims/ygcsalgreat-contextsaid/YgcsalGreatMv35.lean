/-
  The walks of law.wordsMeet and (*yp.Chain).View.
-/
import Derived.Test.YgcsalGreatMv34
import Derived.Test.YgcsalGreatMv25
import Derived.Test.YgcsalGreatMv32
set_option linter.unusedSimpArgs false
set_option linter.unusedVariables false
namespace Go.Own
theorem WsV.cells {w : World} {v : Value} {wl : List (List Nat)} (h : WsV w v wl) : ∃ g cap cur, v = .slice (some ⟨g, 0, none⟩) wl.length cap ∧ w.heap[g]? = some (.cells cur 46 (0, 0)) ∧ ∀ i (hi : i < wl.length) (k x : Nat), wl[i][k]? = some x → cur[i * 32 + k]? = some (n8 x) := by
  obtain ⟨g, cap, cur, h1, h2, h3, h4⟩ := h.ex
  exact ⟨g, cap, cur, h1, h2, fun i hi k x hx => h4 _ _ (wsL_at (fun p hp => (h.ok p hp).1) hi hx)⟩
theorem WsV.own {w : World} {base : Nat} {v : Value} {wl : List (List Nat)} (h : w.ownsRow base 46 32 v wl.length (wsL wl)) (h0 : 0 < wl.length) (hok : ∀ p ∈ wl, p.length = 32 ∧ Small p) : WsV w v wl := by
  rcases h.2 with ⟨_, h1⟩ | ⟨g, cap, cur, h1, h2, h3, h4, h5, h6, h7⟩
  · omega
  · refine ⟨⟨g, cap, cur, h1, h3, h4, fun j u hj => ?_⟩, hok⟩
    rw [← h7, List.getElem?_take] at hj
    split at hj
    · simpa using hj
    · cases hj
theorem wsL_take {wl : List (List Nat)} {i : Nat} (hi : i < wl.length) : wsL (wl.take i) ++ (wl[i].map n8) = wsL (wl.take (i + 1)) := by
  rw [List.take_add_one, List.getElem?_eq_getElem hi, Option.toList_some, wsL, wsL, List.flatMap_append]
  simp only [List.flatMap_cons, List.flatMap_nil, List.append_nil]
theorem n8_one (l : List Nat) : ∀ u ∈ l.map n8, u.oneCell' = true := by
  intro u hu
  obtain ⟨x, _, rfl⟩ := List.mem_map.1 hu
  rfl
def vwL (m G : Nat) (sv : Value) : List Value := [.bool false, .bool false, .int .u8 0, .int .u16 m, n64 G, n64 0] ++ ((ad 1).map n8 ++ ((ad 240).map n8 ++ [sv, nilS, nilS, .int .u16 0]))
theorem vwL_size (m G : Nat) (sv : Value) : (vwL m G sv).toArray.size = 50 := by kernel_rfl
theorem vwL_46 (m G : Nat) (sv : Value) : (vwL m G sv).toArray[46]? = some sv := by kernel_rfl
theorem vwL_s46 (m G : Nat) (sv v : Value) : (vwL m G sv).toArray.setIfInBounds 46 v = (vwL m G v).toArray := by kernel_rfl
theorem vwL_one (m G : Nat) {sv : Value} (h : sv.oneCell' = true) : ∀ u ∈ (vwL m G sv).toArray.toList, u.oneCell' = true := by
  apply oneL
  have e : ((vwL m G sv).all fun u => u.oneCell') = (sv.oneCell' && true) := by kernel_rfl
  rw [e, h]
  rfl
end Go.Own
namespace Go.Proofs.YgcsalGreat
open Go.RowKit Go.Own
theorem zero56 : ((Salg.prog.info? 56).bind (·.zero)) = some (.agg ([.bool false, .bool false, .int .u8 0, .int .u16 0, n64 0, n64 0] ++ (z8 40 ++ [nilS, nilS, nilS, .int .u16 0])).toArray) := by kernel_rfl
theorem size56 : (Salg.prog.info? 56).map (·.size) = some 50 := by kernel_rfl
theorem info46 : (Salg.prog.info? 46).map (fun i => (i.zero, i.size, i.bytes)) = some (some (A8 (List.replicate 32 0)), 32, 32) := by kernel_rfl
theorem zero46s : ((Salg.prog.info? 46).bind (·.zero)).isSome = true := by kernel_rfl

set_option maxHeartbeats 4000000 in
set_option maxRecDepth 100000 in
theorem wordsMeet_yes (v v' : Value) (wl : List (List Nat)) (w : World) (hv : WsV w v wl) (hv' : WsV w v' wl) (hl : wl.length ≤ 40) :
    Calls Salg.prog 100 #[v, v'] w fun e w' => e = .returned (.bool true) ∧ Kept [] w w' := by
  have M := Mem.start w []
  have HOK := hid hv.ok
  obtain ⟨g, cap, cur, rfl, hg, xc⟩ := hv.cells
  obtain ⟨g', cap', cur', rfl, hg', xc'⟩ := hv'.cells
  have HC := hid xc
  have HC' := hid xc'
  clear hv hv' xc xc'
  obtain ⟨n, hn⟩ : ∃ n, n = wl.length := ⟨_, rfl⟩
  have HN := hid hn
  rw [← hn] at hl ⊢
  clear hn
  go_enter Salg.func100, Salg.ntmps100
  go_wp2_with fail
  go_loopw [13] (fun iv wr => ∃ i : Nat, i ≤ n ∧ iv = .int .i64 i ∧ Mem w [] [] wr) (fun iv _ => ((n : Int) - intOf iv).toNat)
  case atStart => exact ⟨0, by omega, rfl, M⟩
  case round =>
    clear M
    obtain ⟨i, hi, rfl, M⟩ := hrel
    rcases Nat.lt_or_ge i n with hlt | hge
    · have hlt2 : i < wl.length := by rw [← HN.out]; exact hlt
      have HI := hid (HOK.out wl[i] (List.getElem_mem _))
      have HX := hid (HC.out i hlt2)
      have HX' := hid (HC'.out i hlt2)
      go_wp2_with fail
      refine S_region (by kernel_rfl) ?_
      refine E_stage 0 10 [0, 1, 2, 3, 4, 5, 6, 7, 8, 9] (by kernel_rfl) M.drew ?_
      clear M
      simp only [List.filterMap_cons, List.filterMap_nil, List.getElem?_cons_zero, List.getElem?_cons_succ]
      ((with_reducible apply E_run); rfl; rfl; (intro w M; go_simp; (try go_ints); (try simp only [↓IntWalk.iteOmega]); (try with_reducible rfl)); simp only [Act.put, List.setIfInBounds_toArray, List.set_cons_zero, List.set_cons_succ])
      ((with_reducible apply E_run); rfl; rfl; (intro w M; go_simp; (try go_ints); (try simp only [↓IntWalk.iteOmega]); (try with_reducible rfl)); simp only [Act.put, List.setIfInBounds_toArray, List.set_cons_zero, List.set_cons_succ])
      ((with_reducible apply E_run); rfl; rfl; (intro w M; go_simp; (try go_ints); (try simp only [↓IntWalk.iteOmega]); (try with_reducible rfl)); simp only [Act.put, List.setIfInBounds_toArray, List.set_cons_zero, List.set_cons_succ])
      ((with_reducible apply E_run); rfl; rfl; (intro w M; exact run_sliceArr (l := 0) (h := 32) (m := 32) rfl Salg.underlying46 size5 (by (first | exact Or.inl ⟨rfl, rfl⟩ | exact Or.inr ⟨_, _, _, rfl, rfl, by omega⟩)) (by (first | exact Or.inl ⟨rfl, rfl⟩ | exact Or.inr ⟨_, _, _, rfl, rfl, by omega⟩)) (by (first | exact Or.inl ⟨rfl, rfl⟩ | exact Or.inr ⟨_, _, _, rfl, rfl, by omega⟩)) (by first | exact Or.inl rfl | exact Or.inr rfl) (by omega) (by omega) (by omega) (by omega)); (try simp only [Nat.zero_add, Nat.sub_zero]); simp only [Act.put, List.setIfInBounds_toArray, List.set_cons_zero, List.set_cons_succ])
      ((with_reducible apply E_run); rfl; rfl; (intro w M; go_simp; (try go_ints); (try simp only [↓IntWalk.iteOmega]); (try with_reducible rfl)); simp only [Act.put, List.setIfInBounds_toArray, List.set_cons_zero, List.set_cons_succ])
      ((with_reducible apply E_run); rfl; rfl; (intro w M; go_simp; (try go_ints); (try simp only [↓IntWalk.iteOmega]); (try with_reducible rfl)); simp only [Act.put, List.setIfInBounds_toArray, List.set_cons_zero, List.set_cons_succ])
      ((with_reducible apply E_run); rfl; rfl; (intro w M; go_simp; (try go_ints); (try simp only [↓IntWalk.iteOmega]); (try with_reducible rfl)); simp only [Act.put, List.setIfInBounds_toArray, List.set_cons_zero, List.set_cons_succ])
      ((with_reducible apply E_run); rfl; rfl; (intro w M; exact run_sliceArr (l := 0) (h := 32) (m := 32) rfl Salg.underlying46 size5 (by (first | exact Or.inl ⟨rfl, rfl⟩ | exact Or.inr ⟨_, _, _, rfl, rfl, by omega⟩)) (by (first | exact Or.inl ⟨rfl, rfl⟩ | exact Or.inr ⟨_, _, _, rfl, rfl, by omega⟩)) (by (first | exact Or.inl ⟨rfl, rfl⟩ | exact Or.inr ⟨_, _, _, rfl, rfl, by omega⟩)) (by first | exact Or.inl rfl | exact Or.inr rfl) (by omega) (by omega) (by omega) (by omega)); (try simp only [Nat.zero_add, Nat.sub_zero]); simp only [Act.put, List.setIfInBounds_toArray, List.set_cons_zero, List.set_cons_succ])
      refine E_call rfl Salg.func105 (by kernel_rfl) (by kernel_rfl) (args := [.slice (some ⟨g, i * 32, none⟩) 32 32, .slice (some ⟨g', i * 32, none⟩) 32 32]) rfl ?_
      intro w1 K M
      clear K
      refine (equalBytes_yes g (i * 32) 46 g' (i * 32) 46 32 32 cur cur' wl[i] 32 _ (M.kept.row hg (by simp)) (M.kept.row hg' (by simp)) HX.out HX'.out HI.out.1 HI.out.2).mono ?_
      rintro e w2 ⟨rfl, hw⟩
      replace hw := hw.symm
      subst hw
      refine ⟨_, rfl, trivial, M, ?_⟩
      simp only [Act.put, List.setIfInBounds_toArray, List.set_cons_zero, List.set_cons_succ]
      ((with_reducible apply E_run); rfl; rfl; (intro w M; go_simp; (try go_ints); (try simp only [↓IntWalk.iteOmega]); (try with_reducible rfl)); simp only [Act.put, List.setIfInBounds_toArray, List.set_cons_zero, List.set_cons_succ])
      refine E_nil ?_
      intro w3 K M
      clear K
      refine S_done ?_
      go_wp2_with fail
      go_roundw
      case rel => exact ⟨i + 1, by omega, by go_num, M⟩
      case measure => simp [intOf]; omega
    · have hin : n = i := by omega
      subst hin
      go_wp2_with fail
      go_ret
      exact ⟨rfl, M.kept⟩

set_option maxHeartbeats 4000000 in
set_option maxRecDepth 100000 in
theorem view_any (c fb m G cap : Nat) (cs fs0 : Array Value) (ns : List Nat) (wl : List (List Nat)) (gv0 vv cu2 iu a0 a1 a3 : Value) (w : World) (hc : w.heap[c]? = some (.cells cs 119 (0, 0))) (k3 : cs[3]? = some nilS) (k4 : cs[4]? = some nilS) (k9 : cs[9]? = some (.slice (some ⟨fb, 0, none⟩) 1 cap)) (k10 : cs[10]? = some nilS) (k11 : cs[11]? = some (.int .u8 1))
    (hF : FrameV w fb fs0 m G ns) (hfs : ∀ k, k < 60 → fs0[k]? = (frL gv0 vv cu2 iu (wrow a0 a1 a3))[k]?) (hm : m ≤ 1000) (hG : G ≤ 1000000) (hns : ns = wl.map be) (hok : ∀ p ∈ wl, p.length = 32 ∧ Small p) (h0 : 0 < wl.length) (hl : wl.length ≤ 40) :
    Calls Salg.prog 20 #[.pointer (some ⟨c, 0, none⟩)] w fun e w' => ∃ sv, e = .returned (.agg (vwL m G sv).toArray) ∧ WsV w' sv wl ∧ Kept [] w w' := by
  have M := Mem.start w []
  obtain ⟨fs, pv, gv, sv, xs, hr, hfr, h3, hpv, h4, hgv, h8, hsv, hxs⟩ := hF
  have hxl : xs.length = wl.length := by rw [hxs.1, hns]; simp
  have hfz : 60 ≤ fs.size := by
    have h59 : fs[59]? = some nilS := by rw [hfr 59 (by decide) (by decide) (by decide), hfs 59 (by decide)]; kernel_rfl
    have := (Array.getElem?_eq_some_iff.1 h59).1
    omega
  have g2 : fs[2]? = some (.bool false) := by rw [hfr 2 (by decide) (by decide) (by decide), hfs 2 (by decide)]; kernel_rfl
  have g9 : fs[9]? = some nilS := by rw [hfr 9 (by decide) (by decide) (by decide), hfs 9 (by decide)]; kernel_rfl
  have HE1 : Hid (fs.extract 12 (12 + 20) = ((ad 1).map n8).toArray) := extract_list (by kernel_rfl) (by omega) (fun k hk => by
    rw [hfr (12 + k) (by omega) (by omega) (by omega), hfs (12 + k) (by omega)]
    rw [frL, List.getElem?_append_right (by simp only [List.length_cons, List.length_nil]; omega), List.getElem?_append_left (by simp only [List.length_map, ad, List.length_cons, List.length_nil]; omega)]
    refine congrArg (fun j => ((ad 1).map n8)[j]?) ?_
    simp only [List.length_cons, List.length_nil]
    omega)
  have HE2 : Hid (fs.extract 32 (32 + 20) = ((ad 240).map n8).toArray) := extract_list (by kernel_rfl) (by omega) (fun k hk => by
    rw [hfr (32 + k) (by omega) (by omega) (by omega), hfs (32 + k) (by omega)]
    rw [frL, List.getElem?_append_right (by simp only [List.length_cons, List.length_nil]; omega), List.getElem?_append_right (by simp only [List.length_map, ad, List.length_cons, List.length_nil]; omega), List.getElem?_append_left (by simp only [List.length_map, ad, List.length_cons, List.length_nil]; omega)]
    refine congrArg (fun j => ((ad 240).map n8)[j]?) ?_
    simp only [List.length_map, ad, List.length_cons, List.length_nil]
    omega)
  have HPV := hid (fun w' (K : Kept [] w w') => small_any pv m w' (hpv.kept K) (by omega))
  have HGV := hid (fun w' (K : Kept [] w w') => small_any gv G w' (hgv.kept K) (by omega))
  have HRF := hid (fun w' => small_any nilS 0 w' (nil_num _) (by decide))
  obtain ⟨g, cap2, cur, rfl, hg, hgc, hcur⟩ := hsv.pos (by omega)
  have HWD : Hid (∀ i (hi : i < wl.length), ∃ u, cur[i]? = some u ∧ ∀ w', Kept [] w w' → Calls Salg.prog 102 #[u] w' fun e w'' => e = .returned (A8 wl[i]) ∧ Kept [] w' w'') := by
    intro i hi
    have hu : xs[i]? = some (xs[i]'(by omega)) := List.getElem?_eq_getElem (by omega)
    refine ⟨xs[i]'(by omega), by rw [hcur i (by omega), hu], fun w' K => ?_⟩
    have hnum := hxs.2 i _ (be wl[i]) hu (by rw [hns, List.getElem?_map, List.getElem?_eq_getElem hi]; rfl)
    exact word_any _ wl[i] w' (hnum.kept K) (hok _ (List.getElem_mem _)).1 (hok _ (List.getElem_mem _)).2
  rw [hxl] at h8
  have HOK := hid hok
  have HTK := hid (fun i (hi : i < wl.length) => wsL_take hi)
  clear hpv hgv hsv hxs hcur hgc hfr hfs hns hok
  obtain ⟨n, hn⟩ : ∃ n, n = wl.length := ⟨_, rfl⟩
  have HN := hid hn
  rw [← hn] at hl h0 h8
  clear hn hxl
  go_enter Salg.func20, Salg.ntmps20
  go_wp2_with (first
    | ((with_reducible apply L_allocA (d := 2) M); exact zero56; clear M; intro t2 w1 ht2 M; simp only [Act.put, List.setIfInBounds_toArray, List.set_cons_zero, List.set_cons_succ])
    | ((with_reducible apply W_loadCell); rfl; exact M.kept.row hc (by simp); exact k11; exact Salg.underlying5; rfl; simp only [Act.put, List.setIfInBounds_toArray, List.set_cons_zero, List.set_cons_succ])
    | ((with_reducible apply W_loadCellG); rfl; rfl; exact M.kept.row hc (by simp); exact k9; exact Salg.underlying115; rfl; simp only [Act.put, List.setIfInBounds_toArray, List.set_cons_zero, List.set_cons_succ]))
  refine S_region (by kernel_rfl) ?_
  refine E_stage 0 12 [0, 1, 2, 3, 4, 5, 6, 7, 8, 9, 10, 11] (by kernel_rfl) M.drew ?_
  clear M
  simp only [List.filterMap_cons, List.filterMap_nil, List.getElem?_cons_zero, List.getElem?_cons_succ]
  ((with_reducible apply E_run); rfl; rfl; (intro w M; go_simp; (try go_ints); (try simp only [↓IntWalk.iteOmega]); (try with_reducible rfl)); simp only [Act.put, List.setIfInBounds_toArray, List.set_cons_zero, List.set_cons_succ])
  ((with_reducible apply E_run); rfl; rfl; (intro w M; go_simp; (try go_ints); (try simp only [↓IntWalk.iteOmega]); (try with_reducible rfl)); simp only [Act.put, List.setIfInBounds_toArray, List.set_cons_zero, List.set_cons_succ])
  ((with_reducible apply E_run); rfl; rfl; (intro w M; go_simp; (try go_ints); (try simp only [↓IntWalk.iteOmega]); (try with_reducible rfl)); simp only [Act.put, List.setIfInBounds_toArray, List.set_cons_zero, List.set_cons_succ])
  ((with_reducible apply E_run); rfl; rfl; (intro w M; exact run_loadCell (M.kept.row hc (by simp)) rfl k9 Salg.underlying115 rfl); simp only [Act.put, List.setIfInBounds_toArray, List.set_cons_zero, List.set_cons_succ])
  ((with_reducible apply E_run); rfl; rfl; (intro w M; go_simp; (try go_ints); (try simp only [↓IntWalk.iteOmega]); (try with_reducible rfl)); simp only [Act.put, List.setIfInBounds_toArray, List.set_cons_zero, List.set_cons_succ])
  ((with_reducible apply E_run); rfl; rfl; (intro w M; go_simp; (try go_ints); (try simp only [↓IntWalk.iteOmega]); (try with_reducible rfl)); simp only [Act.put, List.setIfInBounds_toArray, List.set_cons_zero, List.set_cons_succ])
  ((with_reducible apply E_run); rfl; rfl; (intro w M; go_simp; (try go_ints); (try simp only [↓IntWalk.iteOmega]); (try with_reducible rfl)); simp only [Act.put, List.setIfInBounds_toArray, List.set_cons_zero, List.set_cons_succ])
  ((with_reducible apply E_run); rfl; rfl; (intro w M; exact run_loadCell (M.kept.row hc (by simp)) rfl k9 Salg.underlying115 rfl); simp only [Act.put, List.setIfInBounds_toArray, List.set_cons_zero, List.set_cons_succ])
  ((with_reducible apply E_run); rfl; rfl; (intro w M; go_simp; (try go_ints); (try simp only [↓IntWalk.iteOmega]); (try with_reducible rfl)); simp only [Act.put, List.setIfInBounds_toArray, List.set_cons_zero, List.set_cons_succ])
  ((with_reducible apply E_run); rfl; rfl; (intro w M; go_simp; (try go_ints); (try simp only [↓IntWalk.iteOmega]); (try with_reducible rfl)); simp only [Act.put, List.setIfInBounds_toArray, List.set_cons_zero, List.set_cons_succ])
  ((with_reducible apply E_run); rfl; rfl; (intro w M; go_simp; (try go_ints); (try simp only [↓IntWalk.iteOmega]); (try with_reducible rfl)); simp only [Act.put, List.setIfInBounds_toArray, List.set_cons_zero, List.set_cons_succ])
  ((with_reducible apply E_run); rfl; rfl; (intro w M; go_simp; (try go_ints); (try simp only [↓IntWalk.iteOmega]); (try with_reducible rfl)); simp only [Act.put, List.setIfInBounds_toArray, List.set_cons_zero, List.set_cons_succ])
  refine E_nil ?_
  intro w9 K M
  clear K
  refine S_done ?_
  go_wp2_with fail
  refine S_region (by kernel_rfl) ?_
  refine E_float 0 55 [0, 1, 2, 3, 4, 5, 6, 7, 8, 9, 10, 11, 12, 13, 14, 17, 18, 19, 20, 22, 23, 24, 25, 26, 28, 29, 30, 31, 32, 33, 34, 35, 36, 37, 38, 39, 41, 42, 43, 44, 46, 47, 48, 49, 50, 51, 52, 15, 16, 21, 27, 40, 45, 53] 54 5 _ (by kernel_rfl) ⟨⟨_, _, _, _, _, rfl, zero56, rfl⟩⟩ (by simp) M.drew ?_
  clear M
  simp only [List.filterMap_cons, List.filterMap_nil, List.getElem?_cons_zero, List.getElem?_cons_succ]
  ((with_reducible apply E_run); rfl; rfl; (intro w M; go_simp; (try go_ints); (try simp only [↓IntWalk.iteOmega]); (try with_reducible rfl)); simp only [Act.put, List.setIfInBounds_toArray, List.set_cons_zero, List.set_cons_succ])
  ((with_reducible apply E_run); rfl; rfl; (intro w M; go_simp; (try go_ints); (try simp only [↓IntWalk.iteOmega]); (try with_reducible rfl)); simp only [Act.put, List.setIfInBounds_toArray, List.set_cons_zero, List.set_cons_succ])
  ((with_reducible apply E_run); rfl; rfl; (intro w M; go_simp; (try go_ints); (try simp only [↓IntWalk.iteOmega]); (try with_reducible rfl)); simp only [Act.put, List.setIfInBounds_toArray, List.set_cons_zero, List.set_cons_succ])
  ((with_reducible apply E_run); rfl; rfl; (intro w M; exact run_loadCell (M.kept.row hr (by simp)) rfl g2 Salg.underlying4 rfl); simp only [Act.put, List.setIfInBounds_toArray, List.set_cons_zero, List.set_cons_succ])
  ((with_reducible apply E_run); rfl; rfl; (intro w M; go_simp; (try go_ints); (try simp only [↓IntWalk.iteOmega]); (try with_reducible rfl)); simp only [Act.put, List.setIfInBounds_toArray, List.set_cons_zero, List.set_cons_succ])
  ((with_reducible apply E_run); rfl; rfl; (intro w M; go_simp; (try go_ints); (try simp only [↓IntWalk.iteOmega]); (try with_reducible rfl)); simp only [Act.put, List.setIfInBounds_toArray, List.set_cons_zero, List.set_cons_succ])
  ((with_reducible apply E_run); rfl; rfl; (intro w M; go_simp; (try go_ints); (try simp only [↓IntWalk.iteOmega]); (try with_reducible rfl)); simp only [Act.put, List.setIfInBounds_toArray, List.set_cons_zero, List.set_cons_succ])
  ((with_reducible apply E_run); rfl; rfl; (intro w M; exact run_loadCell (M.kept.row hc (by simp)) rfl k9 Salg.underlying115 rfl); simp only [Act.put, List.setIfInBounds_toArray, List.set_cons_zero, List.set_cons_succ])
  ((with_reducible apply E_run); rfl; rfl; (intro w M; go_simp; (try go_ints); (try simp only [↓IntWalk.iteOmega]); (try with_reducible rfl)); simp only [Act.put, List.setIfInBounds_toArray, List.set_cons_zero, List.set_cons_succ])
  ((with_reducible apply E_run); rfl; rfl; (intro w M; go_simp; (try go_ints); (try simp only [↓IntWalk.iteOmega]); (try with_reducible rfl)); simp only [Act.put, List.setIfInBounds_toArray, List.set_cons_zero, List.set_cons_succ])
  ((with_reducible apply E_run); rfl; rfl; (intro w M; go_simp; (try go_ints); (try simp only [↓IntWalk.iteOmega]); (try with_reducible rfl)); simp only [Act.put, List.setIfInBounds_toArray, List.set_cons_zero, List.set_cons_succ])
  ((with_reducible apply E_run); rfl; rfl; (intro w M; go_simp; (try go_ints); (try simp only [↓IntWalk.iteOmega]); (try with_reducible rfl)); simp only [Act.put, List.setIfInBounds_toArray, List.set_cons_zero, List.set_cons_succ])
  ((with_reducible apply E_run); rfl; rfl; (intro w M; go_simp; (try go_ints); (try simp only [↓IntWalk.iteOmega]); (try with_reducible rfl)); simp only [Act.put, List.setIfInBounds_toArray, List.set_cons_zero, List.set_cons_succ])
  ((with_reducible apply E_run); rfl; rfl; (intro w M; go_simp; (try go_ints); (try simp only [↓IntWalk.iteOmega]); (try with_reducible rfl)); simp only [Act.put, List.setIfInBounds_toArray, List.set_cons_zero, List.set_cons_succ])
  ((with_reducible apply E_run); rfl; rfl; (intro w M; exact run_loadCell (M.kept.row hr (by simp)) rfl h3 Salg.underlying89 rfl); simp only [Act.put, List.setIfInBounds_toArray, List.set_cons_zero, List.set_cons_succ])
  ((with_reducible apply E_run); rfl; rfl; (intro w M; go_simp; (try go_ints); (try simp only [↓IntWalk.iteOmega]); (try with_reducible rfl)); simp only [Act.put, List.setIfInBounds_toArray, List.set_cons_zero, List.set_cons_succ])
  ((with_reducible apply E_run); rfl; rfl; (intro w M; go_simp; (try go_ints); (try simp only [↓IntWalk.iteOmega]); (try with_reducible rfl)); simp only [Act.put, List.setIfInBounds_toArray, List.set_cons_zero, List.set_cons_succ])
  ((with_reducible apply E_run); rfl; rfl; (intro w M; go_simp; (try go_ints); (try simp only [↓IntWalk.iteOmega]); (try with_reducible rfl)); simp only [Act.put, List.setIfInBounds_toArray, List.set_cons_zero, List.set_cons_succ])
  ((with_reducible apply E_run); rfl; rfl; (intro w M; exact run_loadCell (M.kept.row hr (by simp)) rfl h4 Salg.underlying89 rfl); simp only [Act.put, List.setIfInBounds_toArray, List.set_cons_zero, List.set_cons_succ])
  ((with_reducible apply E_run); rfl; rfl; (intro w M; go_simp; (try go_ints); (try simp only [↓IntWalk.iteOmega]); (try with_reducible rfl)); simp only [Act.put, List.setIfInBounds_toArray, List.set_cons_zero, List.set_cons_succ])
  ((with_reducible apply E_run); rfl; rfl; (intro w M; go_simp; (try go_ints); (try simp only [↓IntWalk.iteOmega]); (try with_reducible rfl)); simp only [Act.put, List.setIfInBounds_toArray, List.set_cons_zero, List.set_cons_succ])
  ((with_reducible apply E_run); rfl; rfl; (intro w M; go_simp; (try go_ints); (try simp only [↓IntWalk.iteOmega]); (try with_reducible rfl)); simp only [Act.put, List.setIfInBounds_toArray, List.set_cons_zero, List.set_cons_succ])
  ((with_reducible apply E_run); rfl; rfl; (intro w M; go_simp; (try go_ints); (try simp only [↓IntWalk.iteOmega]); (try with_reducible rfl)); simp only [Act.put, List.setIfInBounds_toArray, List.set_cons_zero, List.set_cons_succ])
  ((with_reducible apply E_run); rfl; rfl; (intro w M; exact run_loadCell (M.kept.row hc (by simp)) rfl k3 Salg.underlying89 rfl); simp only [Act.put, List.setIfInBounds_toArray, List.set_cons_zero, List.set_cons_succ])
  ((with_reducible apply E_run); rfl; rfl; (intro w M; go_simp; (try go_ints); (try simp only [↓IntWalk.iteOmega]); (try with_reducible rfl)); simp only [Act.put, List.setIfInBounds_toArray, List.set_cons_zero, List.set_cons_succ])
  ((with_reducible apply E_run); rfl; rfl; (intro w M; go_simp; (try go_ints); (try simp only [↓IntWalk.iteOmega]); (try with_reducible rfl)); simp only [Act.put, List.setIfInBounds_toArray, List.set_cons_zero, List.set_cons_succ])
  ((with_reducible apply E_run); rfl; rfl; (intro w M; go_simp; (try go_ints); (try simp only [↓IntWalk.iteOmega]); (try with_reducible rfl)); simp only [Act.put, List.setIfInBounds_toArray, List.set_cons_zero, List.set_cons_succ])
  ((with_reducible apply E_run (v := .agg ((ad 1).map n8).toArray)); rfl; rfl; (intro w M; exact run_loadX (n := 20) (M.kept.row hr (by simp)) rfl Salg.underlying45 rfl size45 (by omega) HE1.out); simp only [Act.put, List.setIfInBounds_toArray, List.set_cons_zero, List.set_cons_succ])
  ((with_reducible apply E_run); rfl; rfl; (intro w M; go_simp; (try go_ints); (try simp only [↓IntWalk.iteOmega]); (try with_reducible rfl)); simp only [Act.put, List.setIfInBounds_toArray, List.set_cons_zero, List.set_cons_succ])
  ((with_reducible apply E_run); rfl; rfl; (intro w M; go_simp; (try go_ints); (try simp only [↓IntWalk.iteOmega]); (try with_reducible rfl)); simp only [Act.put, List.setIfInBounds_toArray, List.set_cons_zero, List.set_cons_succ])
  ((with_reducible apply E_run); rfl; rfl; (intro w M; go_simp; (try go_ints); (try simp only [↓IntWalk.iteOmega]); (try with_reducible rfl)); simp only [Act.put, List.setIfInBounds_toArray, List.set_cons_zero, List.set_cons_succ])
  ((with_reducible apply E_run (v := .agg ((ad 240).map n8).toArray)); rfl; rfl; (intro w M; exact run_loadX (n := 20) (M.kept.row hr (by simp)) rfl Salg.underlying45 rfl size45 (by omega) HE2.out); simp only [Act.put, List.setIfInBounds_toArray, List.set_cons_zero, List.set_cons_succ])
  ((with_reducible apply E_run); rfl; rfl; (intro w M; go_simp; (try go_ints); (try simp only [↓IntWalk.iteOmega]); (try with_reducible rfl)); simp only [Act.put, List.setIfInBounds_toArray, List.set_cons_zero, List.set_cons_succ])
  ((with_reducible apply E_run); rfl; rfl; (intro w M; go_simp; (try go_ints); (try simp only [↓IntWalk.iteOmega]); (try with_reducible rfl)); simp only [Act.put, List.setIfInBounds_toArray, List.set_cons_zero, List.set_cons_succ])
  ((with_reducible apply E_run); rfl; rfl; (intro w M; go_simp; (try go_ints); (try simp only [↓IntWalk.iteOmega]); (try with_reducible rfl)); simp only [Act.put, List.setIfInBounds_toArray, List.set_cons_zero, List.set_cons_succ])
  ((with_reducible apply E_run); rfl; rfl; (intro w M; exact run_loadCell (M.kept.row hr (by simp)) rfl g9 Salg.underlying40 rfl); simp only [Act.put, List.setIfInBounds_toArray, List.set_cons_zero, List.set_cons_succ])
  ((with_reducible apply E_run); rfl; rfl; (intro w M; go_simp; (try go_ints); (try simp only [↓IntWalk.iteOmega]); (try with_reducible rfl)); simp only [Act.put, List.setIfInBounds_toArray, List.set_cons_zero, List.set_cons_succ])
  ((with_reducible apply E_run); rfl; rfl; (intro w M; go_simp; (try go_ints); (try simp only [↓IntWalk.iteOmega]); (try with_reducible rfl)); simp only [Act.put, List.setIfInBounds_toArray, List.set_cons_zero, List.set_cons_succ])
  ((with_reducible apply E_run); rfl; rfl; (intro w M; go_simp; (try go_ints); (try simp only [↓IntWalk.iteOmega]); (try with_reducible rfl)); simp only [Act.put, List.setIfInBounds_toArray, List.set_cons_zero, List.set_cons_succ])
  ((with_reducible apply E_run); rfl; rfl; (intro w M; exact run_loadCell (M.kept.row hc (by simp)) rfl k10 Salg.underlying40 rfl); simp only [Act.put, List.setIfInBounds_toArray, List.set_cons_zero, List.set_cons_succ])
  ((with_reducible apply E_run); rfl; rfl; (intro w M; go_simp; (try go_ints); (try simp only [↓IntWalk.iteOmega]); (try with_reducible rfl)); simp only [Act.put, List.setIfInBounds_toArray, List.set_cons_zero, List.set_cons_succ])
  ((with_reducible apply E_run); rfl; rfl; (intro w M; go_simp; (try go_ints); (try simp only [↓IntWalk.iteOmega]); (try with_reducible rfl)); simp only [Act.put, List.setIfInBounds_toArray, List.set_cons_zero, List.set_cons_succ])
  ((with_reducible apply E_run); rfl; rfl; (intro w M; go_simp; (try go_ints); (try simp only [↓IntWalk.iteOmega]); (try with_reducible rfl)); simp only [Act.put, List.setIfInBounds_toArray, List.set_cons_zero, List.set_cons_succ])
  ((with_reducible apply E_run); rfl; rfl; (intro w M; go_simp; (try go_ints); (try simp only [↓IntWalk.iteOmega]); (try with_reducible rfl)); simp only [Act.put, List.setIfInBounds_toArray, List.set_cons_zero, List.set_cons_succ])
  ((with_reducible apply E_run); rfl; rfl; (intro w M; exact run_loadCell (M.kept.row hc (by simp)) rfl k4 Salg.underlying63 rfl); simp only [Act.put, List.setIfInBounds_toArray, List.set_cons_zero, List.set_cons_succ])
  ((with_reducible apply E_run); rfl; rfl; (intro w M; go_simp; (try go_ints); (try simp only [↓IntWalk.iteOmega]); (try with_reducible rfl)); simp only [Act.put, List.setIfInBounds_toArray, List.set_cons_zero, List.set_cons_succ])
  ((with_reducible apply E_run); rfl; rfl; (intro w M; go_simp; (try go_ints); (try simp only [↓IntWalk.iteOmega]); (try with_reducible rfl)); simp only [Act.put, List.setIfInBounds_toArray, List.set_cons_zero, List.set_cons_succ])
  refine E_call rfl Salg.func101 (by kernel_rfl) (by kernel_rfl) (args := [pv]) rfl ?_
  intro w1 K M
  clear K
  refine (HPV.out _ M.kept).mono ?_
  rintro e w2 ⟨rfl, hw⟩
  replace hw := hw.symm
  subst hw
  refine ⟨_, rfl, Kept.refl _ _, M, ?_⟩
  simp only [Act.put, List.setIfInBounds_toArray, List.set_cons_zero, List.set_cons_succ]
  ((with_reducible apply E_run); rfl; rfl; (intro w M; go_simp; (try go_ints); (try simp only [↓IntWalk.iteOmega]); (try with_reducible rfl)); simp only [Act.put, List.setIfInBounds_toArray, List.set_cons_zero, List.set_cons_succ])
  refine E_call rfl Salg.func101 (by kernel_rfl) (by kernel_rfl) (args := [gv]) rfl ?_
  intro w1 K M
  clear K
  refine (HGV.out _ M.kept).mono ?_
  rintro e w3 ⟨rfl, hw⟩
  replace hw := hw.symm
  subst hw
  refine ⟨_, rfl, Kept.refl _ _, M, ?_⟩
  simp only [Act.put, List.setIfInBounds_toArray, List.set_cons_zero, List.set_cons_succ]
  refine E_call rfl Salg.func101 (by kernel_rfl) (by kernel_rfl) (args := [nilS]) rfl ?_
  intro w1 K M
  clear K
  refine (HRF.out _).mono ?_
  rintro e w4 ⟨rfl, hw⟩
  replace hw := hw.symm
  subst hw
  refine ⟨_, rfl, Kept.refl _ _, M, ?_⟩
  simp only [Act.put, List.setIfInBounds_toArray, List.set_cons_zero, List.set_cons_succ]
  refine E_call rfl Salg.func96 (by kernel_rfl) (by kernel_rfl) (args := [nilS]) rfl ?_
  intro w1 K M
  clear K
  refine (bytesOf_nil _).mono ?_
  rintro e w5 ⟨rfl, hw⟩
  replace hw := hw.symm
  subst hw
  refine ⟨_, rfl, Kept.refl _ _, M, ?_⟩
  simp only [Act.put, List.setIfInBounds_toArray, List.set_cons_zero, List.set_cons_succ]
  refine E_call rfl Salg.func96 (by kernel_rfl) (by kernel_rfl) (args := [nilS]) rfl ?_
  intro w1 K M
  clear K
  refine (bytesOf_nil _).mono ?_
  rintro e w5 ⟨rfl, hw⟩
  replace hw := hw.symm
  subst hw
  refine ⟨_, rfl, Kept.refl _ _, M, ?_⟩
  simp only [Act.put, List.setIfInBounds_toArray, List.set_cons_zero, List.set_cons_succ]
  ((with_reducible apply E_run (v := .agg (vwL m G nilS).toArray)); rfl; rfl; (intro w M; kernel_rfl); simp only [Act.put, List.setIfInBounds_toArray, List.set_cons_zero, List.set_cons_succ])
  refine E_nil ?_
  intro w6 K M
  clear K
  intro t5 w7 K ht5 M
  clear K
  simp only [Act.put, List.setIfInBounds_toArray, List.set_cons_zero, List.set_cons_succ]
  refine S_seg 55 56 (by kernel_rfl) (by decide) ?_
  simp only [List.take_succ_cons, List.take_zero, List.drop_zero, List.drop_succ_cons, Nat.sub_zero, Nat.reduceSub]
  go_wp2_with ((with_reducible apply W_storeK (b := t5) (vs := (vwL m G nilS).toArray)); rfl; rfl; exact M.r0; exact size56; rfl; exact vwL_one m G rfl; intro w8 K hr3; replace M := Mem.callPut (L1 := []) M (Or.inr ht5) K hr3; clear K hr3; simp only [List.nil_append] at M)
  refine S_done ?_
  obtain ⟨B, hB⟩ : ∃ B : Nat, B = w8.heap.size := ⟨_, rfl⟩
  have h5B : t5 < B := by rw [hB]; exact lt_of_row M.r0
  have h2B : t2 < B := by rw [hB]; exact lt_of_row M.r1
  have hwB : w.heap.size ≤ B := by rw [hB]; exact M.kept.size
  have hBle := Nat.le_of_eq hB
  go_wp2_with ((with_reducible apply W_loadCell); rfl; exact M.kept.row hr (by simp); exact h8; exact Salg.underlying140; rfl; simp only [Act.put, List.setIfInBounds_toArray, List.set_cons_zero, List.set_cons_succ])
  go_loopw [124] (fun iv wr => ∃ (i : Nat) (sv : Value), i ≤ n ∧ iv = .int .i64 i ∧ Mem w [] [(t5, .cells (vwL m G sv).toArray 56 (0, 0)), (t2, .cells ([.bool false, .bool false, .int .u8 0, .int .u16 0, n64 0, n64 0] ++ (z8 40 ++ [nilS, nilS, nilS, .int .u16 0])).toArray 56 (0, 0))] wr ∧ B ≤ wr.heap.size ∧ wr.ownsRow B 46 32 sv i (wsL (wl.take i))) (fun iv _ => ((n : Int) - intOf iv).toNat)
  case atStart => exact ⟨0, nilS, by omega, rfl, M, hBle, own_nil _ _ _ _⟩
  case round =>
    clear M
    obtain ⟨i, sv, hi, rfl, M, hBw, xO⟩ := hrel
    have HO := hid xO
    clear xO
    rcases Nat.lt_or_ge i n with hlt | hge
    · have hlt2 : i < wl.length := by rw [← HN.out]; exact hlt
      obtain ⟨u, hu, xW⟩ := HWD.out i hlt2
      have HW := hid xW
      have HT := hid (HTK.out i hlt2)
      have HL := hid (HOK.out wl[i] (List.getElem_mem _)).1
      clear xW
      generalize wl[i] = wi at *
      go_wp2_with ((with_reducible apply W_loadCell); rfl; exact M.kept.row hg (by simp); exact hu; exact Salg.underlying89; rfl; simp only [Act.put, List.setIfInBounds_toArray, List.set_cons_zero, List.set_cons_succ])
      refine S_region (by kernel_rfl) ?_
      replace HO := hid (own_kept HO.out (Kept.refl [] _).drew)
      refine E_stage 0 6 [0, 1, 2, 3, 4, 5] (by kernel_rfl) M.drew ?_
      clear M
      simp only [List.filterMap_cons, List.filterMap_nil, List.getElem?_cons_zero, List.getElem?_cons_succ]
      ((with_reducible apply E_run); rfl; rfl; (intro w M; go_simp; (try go_ints); (try simp only [↓IntWalk.iteOmega]); (try with_reducible rfl)); simp only [Act.put, List.setIfInBounds_toArray, List.set_cons_zero, List.set_cons_succ])
      ((with_reducible apply E_run); rfl; rfl; (intro w M; exact run_loadCell (M.r0) rfl (vwL_46 _ _ _) Salg.underlying54 rfl); simp only [Act.put, List.setIfInBounds_toArray, List.set_cons_zero, List.set_cons_succ])
      ((with_reducible apply E_run); rfl; rfl; (intro w M; go_simp; (try go_ints); (try simp only [↓IntWalk.iteOmega]); (try with_reducible rfl)); simp only [Act.put, List.setIfInBounds_toArray, List.set_cons_zero, List.set_cons_succ])
      refine E_call rfl Salg.func102 (by kernel_rfl) (by kernel_rfl) (args := [u]) rfl ?_
      intro w1 K M
      replace HO := hid (own_kept HO.out K)
      replace hBw := Nat.le_trans hBw K.size
      clear K
      refine (HW.out _ M.kept).mono ?_
      rintro e w9 ⟨rfl, K⟩
      replace HO := hid (own_kept HO.out K)
      replace hBw := Nat.le_trans hBw K.size
      replace M := M.call K
      refine ⟨_, rfl, trivial, M, ?_⟩
      clear K
      simp only [Act.put, List.setIfInBounds_toArray, List.set_cons_zero, List.set_cons_succ]
      refine E_buildIt (vs := (wi.map n8).toArray) (s := 32) rfl rfl Salg.underlying54 size46 zero46s (by simp [HL.out]) (by decide) (by decide) ?_
      intro bn wa wb K1 hbn hbn2 K2 M
      replace HO := hid (own_kept (own_kept HO.out K1) K2)
      replace hBw := Nat.le_trans hBw (Nat.le_trans K1.size K2.size)
      clear K1 K2
      simp only [Act.put, List.setIfInBounds_toArray, List.set_cons_zero, List.set_cons_succ]
      refine E_appendIt (base := B) (n := i) (m := 1) (s := 32) (bn := bn) (so := 0) (xs := wsL (wl.take i)) (news := wi.map n8) (cs := (wi.map n8).toArray) info46 Salg.underlying54 rfl (by decide) (by decide) rfl rfl HO.out (by omega) M.r0 (by simp [HL.out]) (cells_news _) (n8_one _) hwB hBw (apart2 (own_old HO.out h5B) (own_old HO.out h2B)) ?_
      clear M
      intro VV wc wd K1 M xO hb3 K2
      rw [HT.out] at xO
      have HOW := hid xO
      clear xO K1 K2
      simp only [Act.put, List.setIfInBounds_toArray, List.set_cons_zero, List.set_cons_succ]
      refine E_nil ?_
      intro w10 K M
      replace HOW := hid (own_kept HOW.out K)
      replace hb3 := Nat.le_trans hb3 K.size
      clear K
      refine S_seg 6 8 (by kernel_rfl) (by decide) ?_
      simp only [List.take_succ_cons, List.take_zero, List.drop_zero, List.drop_succ_cons, Nat.sub_zero, Nat.reduceSub]
      have HV1 : Hid (VV.oneCell' = true) := own_one HOW.out
      go_wp2_with ((with_reducible apply W_stV (b := t5) (o := 46) (v := VV)); rfl; rfl; exact HV1.out; exact M.r0; exact size54; (rw [vwL_size]; decide); intro w11 K hr3; rw [vwL_s46] at hr3; replace HOW := hid (own_keptC HOW.out K M.r0 (by decide)); replace hb3 := Nat.le_trans hb3 K.size; replace M := Mem.callPut (L1 := []) M (Or.inr ht5) K hr3; clear K hr3; simp only [List.nil_append] at M)
      refine S_done ?_
      go_wp2_with fail
      go_roundw
      case rel => exact ⟨i + 1, VV, by omega, by go_num, M, hb3, HOW.out⟩
      case measure => simp [intOf]; omega
    · have hin : n = i := by omega
      subst hin
      have HV1 : Hid (sv.oneCell' = true) := own_one HO.out
      go_wp2_with (first
        | ((with_reducible apply W_loadAll); rfl; exact M.r0; exact Salg.underlying56; rfl; exact size56; simp only [Act.put, List.setIfInBounds_toArray, List.set_cons_zero, List.set_cons_succ])
        | ((with_reducible apply W_storeK (b := t2) (vs := (vwL m G sv).toArray)); rfl; rfl; exact M.r1; exact size56; rfl; exact vwL_one m G HV1.out; intro w12 K hr3; replace HO := hid (own_keptC HO.out K M.r1 (by decide)); replace M := Mem.callPut (L1 := [(t5, _)]) M (Or.inr ht2) K hr3; clear K hr3; simp only [List.cons_append, List.nil_append] at M))
      refine ret_cell1 Salg.results20 rfl M.r1 Salg.underlying56 rfl size56 rfl ⟨sv, rfl, ?_, M.kept⟩
      have hO := HO.out
      rw [HN.out, List.take_of_length_le (Nat.le_refl _)] at hO
      exact WsV.own hO (by rw [← HN.out]; exact h0) HOK.out
end Go.Proofs.YgcsalGreat

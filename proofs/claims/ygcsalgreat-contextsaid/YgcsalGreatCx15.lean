/-
  The walk of (*yp.Chain).View in a run of Context.
-/
import Derived.Test.YgcsalGreatCx14
import Derived.Test.YgcsalGreatMv35
set_option linter.unusedSimpArgs false
set_option linter.unusedVariables false
namespace Go.Own
open Go.Proofs.YgcsalGreat
/-- A number as a word's bytes. -/
theorem ex_be : ∀ (k N : Nat), N < 256 ^ k → ∃ p : List Nat, p.length = k ∧ Small p ∧ be p = N
  | 0, N, h => ⟨[], rfl, (fun x hx => by cases hx), by simp at h; simp [be, h]⟩
  | k + 1, N, h => by
    obtain ⟨p, h1, h2, h3⟩ := ex_be k (N / 256) (by rw [Nat.pow_succ] at h; exact Nat.div_lt_of_lt_mul (by rw [Nat.mul_comm]; exact h))
    refine ⟨p ++ [N % 256], by simp [h1], fun x hx => ?_, ?_⟩
    · rcases List.mem_append.1 hx with hx | hx
      · exact h2 x hx
      · simp at hx
        omega
    · rw [be_snoc, h3]
      omega
theorem ex_words : ∀ (ns : List Nat), (∀ N ∈ ns, N < 256 ^ 32) → ∃ wl : List (List Nat), ns = wl.map be ∧ ∀ p ∈ wl, p.length = 32 ∧ Small p
  | [], _ => ⟨[], rfl, fun p hp => by cases hp⟩
  | N :: ns, h => by
    obtain ⟨p, h1, h2, h3⟩ := ex_be 32 N (h N (by simp))
    obtain ⟨wl, h4, h5⟩ := ex_words ns (fun x hx => h x (by simp [hx]))
    refine ⟨p :: wl, by rw [List.map_cons, h3, h4], fun q hq => ?_⟩
    rcases List.mem_cons.1 hq with rfl | hq
    · exact ⟨h1, h2⟩
    · exact h5 q hq
def vwG (sb : Bool) (d m G : Nat) (sf cl : List Nat) (sv mv rv : Value) : List Value := [.bool false, .bool sb, .int .u8 (d : Int), .int .u16 (m : Int), n64 G, n64 0] ++ (sf.map n8 ++ (cl.map n8 ++ [sv, mv, rv, .int .u16 0]))
end Go.Own
namespace Go.Proofs.YgcsalGreat
open Go.RowKit Go.Own

set_option maxHeartbeats 4000000 in
set_option maxRecDepth 100000 in
theorem viewY1 (c fb cap m G : Nat) (sb : Bool) (E : XEnv) (fs0 : Array Value) (cv rt mv : Value) (ns mem rd sf cl : List Nat) (la : List (List Nat)) (w : World) (hC : ChY w c E (.slice (some ⟨fb, 0, none⟩) 1 cap) rt la) (hF : FrameQ w fb 0 fs0 m G ns mv) (hf : FrB fs0 0 sb cv) (hse : fs0.extract (0 + 12) (0 + 12 + 20) = (sf.map n8).toArray) (hca : fs0.extract (0 + 32) (0 + 32 + 20) = (cl.map n8).toArray) (hsl : sf.length = 20) (hcl : cl.length = 20) (hmem : NatV w mv mem) (hrt : NatV w rt rd) (hm : m ≤ 1000) (hG : G ≤ 1000000) (hns : ∀ N ∈ ns, N < 256 ^ 32) (hl : ns.length ≤ 40) :
    Calls Salg.prog 20 #[.pointer (some ⟨c, 0, none⟩)] w fun e w' => ∃ sv mvv rvv : Value, e = .returned (.agg (vwG sb 0 m G sf cl sv mvv rvv).toArray) ∧ sv.oneCell' = true ∧ mvv.oneCell' = true ∧ rvv.oneCell' = true ∧ Kept [] w w' := by
  have M := Mem.start w []
  obtain ⟨fs, pv, gv, sv, xs, hr, h0, h2, h3, hpv, h4, hgv, h8, hsv, hxs, hmv⟩ := hF
  obtain ⟨wl, hwl, hok⟩ := ex_words ns hns
  have hxl : xs.length = wl.length := by rw [hxs.1, hwl]; simp
  obtain ⟨wz, hc, _⟩ := hC
  have k3 : (chN E wz (.slice (some ⟨fb, 0, none⟩) 1 cap) rt)[3]? = some nilS := chN_get _ _ _ _ (by decide)
  have k4 : (chN E wz (.slice (some ⟨fb, 0, none⟩) 1 cap) rt)[4]? = some nilS := chN_get _ _ _ _ (by decide)
  have k9 : (chN E wz (.slice (some ⟨fb, 0, none⟩) 1 cap) rt)[9]? = some (.slice (some ⟨fb, 0, none⟩) 1 cap) := chN_get _ _ _ _ (by decide)
  have k10 : (chN E wz (.slice (some ⟨fb, 0, none⟩) 1 cap) rt)[10]? = some rt := chN_get _ _ _ _ (by decide)
  have k11 : (chN E wz (.slice (some ⟨fb, 0, none⟩) 1 cap) rt)[11]? = some (.int .u8 1) := chN_get _ _ _ _ (by decide)
  have hfz : 0 + 60 ≤ fs.size := by rw [h0]; exact hf.size
  have g2 := (h2 (0 + 2) (by decide) (by decide) (by decide) (by decide)).trans hf.f2
  have HE1 : Hid (fs.extract (0 + 12) (0 + 12 + 20) = (sf.map n8).toArray) := by
    have e := ext_same (a := 0 + 12) (n := 20) h0 fun k k1 k2 => h2 k (by omega) (by omega) (by omega) (by omega)
    exact e.trans hse
  have HE2 : Hid (fs.extract (0 + 32) (0 + 32 + 20) = (cl.map n8).toArray) := by
    have e := ext_same (a := 0 + 32) (n := 20) h0 fun k k1 k2 => h2 k (by omega) (by omega) (by omega) (by omega)
    exact e.trans hca
  have HPV := hid (fun w' (K : Kept [] w w') => small_any pv m w' (hpv.kept K) (by omega))
  have HGV := hid (fun w' (K : Kept [] w w') => small_any gv G w' (hgv.kept K) (by omega))
  have HRF := hid (fun w' => small_any nilS 0 w' (nil_num _) (by decide))
  have HMV := hid hmem
  have HRT := hid hrt
  obtain ⟨p, cap2, rfl⟩ : ∃ p cap, sv = .slice p xs.length cap := by
    rcases hsv with ⟨rfl, rfl⟩ | ⟨g, cap, cur, rfl, _⟩
    · exact ⟨none, 0, rfl⟩
    · exact ⟨_, _, rfl⟩
  have HWD : Hid (∀ i (hi : i < wl.length), ∃ (g : Nat) (cur : Array Value) (u : Value), p = some ⟨g, 0, none⟩ ∧ w.heap[g]? = some (.cells cur 89 (0, 0)) ∧ cur[i]? = some u ∧ ∀ w', Kept [] w w' → Calls Salg.prog 102 #[u] w' fun e w'' => e = .returned (A8 wl[i]) ∧ Kept [] w' w'') := by
    intro i hi
    obtain ⟨g, cap3, cur, e1, hg, hgc, hcur⟩ := hsv.pos (by omega)
    injection e1 with e1 _ _
    have hu : xs[i]? = some (xs[i]'(by omega)) := List.getElem?_eq_getElem (by omega)
    refine ⟨g, cur, xs[i]'(by omega), e1, hg, by rw [hcur i (by omega), hu], fun w' K => ?_⟩
    have hnum := hxs.2 i _ (be wl[i]) hu (by rw [hwl, List.getElem?_map, List.getElem?_eq_getElem hi]; rfl)
    exact word_any _ wl[i] w' (hnum.kept K) (hok _ (List.getElem_mem _)).1 (hok _ (List.getElem_mem _)).2
  have hll : wl.length ≤ 40 := by rw [← hxl, hxs.1]; exact hl
  rw [hxl] at h8
  have HOK := hid hok
  have HTK := hid (fun i (hi : i < wl.length) => wsL_take hi)
  clear hpv hgv hsv hxs h2 hwl hok hmem hrt hse hca hf h0 hns
  obtain ⟨n, hn⟩ : ∃ n, n = wl.length := ⟨_, rfl⟩
  have HN := hid hn
  rw [← hn] at hll h8
  clear hn hxl
  obtain ⟨x0, x1, x2, x3, x4, x5, x6, x7, x8, x9, x10, x11, x12, x13, x14, x15, x16, x17, x18, x19, rfl⟩ := list20 hsl
  obtain ⟨y0, y1, y2, y3, y4, y5, y6, y7, y8, y9, y10, y11, y12, y13, y14, y15, y16, y17, y18, y19, rfl⟩ := list20 hcl
  go_enter Salg.func20, Salg.ntmps20
  go_wp2_with (first
    | ((with_reducible apply L_allocA (d := 2) M); exact zero56; clear M; intro t2 w1 ht2 M; simp only [Act.put, List.setIfInBounds_toArray, List.set_cons_zero, List.set_cons_succ])
    | ((with_reducible apply W_loadCell); rfl; exact M.kept.row hc (by simp); exact k11; exact Salg.underlying5; rfl; simp only [Act.put, List.setIfInBounds_toArray, List.set_cons_zero, List.set_cons_succ])
    | ((with_reducible apply W_loadCellG); rfl; rfl; exact M.kept.row hc (by simp); exact k9; exact Salg.underlying115; rfl; simp only [Act.put, List.setIfInBounds_toArray, List.set_cons_zero, List.set_cons_succ]))
  refine S_region (by kernel_rfl) ?_
  refine E_stage 0 12 [0, 1, 2, 3, 4, 5, 6, 7, 8, 9, 10, 11] (by kernel_rfl) M.drew ?_
  clear M
  simp only [List.filterMap_cons, List.filterMap_nil, List.getElem?_cons_zero, List.getElem?_cons_succ]
  ((with_reducible apply E_run); rfl; rfl; (intro w M; go_simp; (try go_ints); (try simp only [↓IntWalk.iteOmega]); (try with_reducible rfl)); simp only [Act.put, List.setIfInBounds_toArray, List.set_cons_zero, List.set_cons_succ])
  ((with_reducible apply E_run); rfl; rfl; (intro w M; go_simp; (try go_ints); (try simp only [↓IntWalk.iteOmega]); (try with_reducible rfl)); simp only [Act.put, List.setIfInBounds_toArray, List.set_cons_zero, List.set_cons_succ])
  ((with_reducible apply E_run); rfl; rfl; (intro w M; go_simp; (try go_ints); (try simp only [↓IntWalk.iteOmega]); (try with_reducible rfl)); simp only [Act.put, List.setIfInBounds_toArray, List.set_cons_zero, List.set_cons_succ])
  ((with_reducible apply E_run); rfl; rfl; (intro w M; exact run_loadCell (M.kept.row hc (by simp)) rfl k9 Salg.underlying115 rfl); simp only [Act.put, List.setIfInBounds_toArray, List.set_cons_zero, List.set_cons_succ])
  ((with_reducible apply E_run); rfl; rfl; (intro w M; go_simp; (try go_ints); (try simp only [↓IntWalk.iteOmega]); (try with_reducible rfl)); simp only [Act.put, List.setIfInBounds_toArray, List.set_cons_zero, List.set_cons_succ])
  ((with_reducible apply E_run); rfl; rfl; (intro w M; go_simp; (try go_ints); (try simp only [↓IntWalk.iteOmega]); (try with_reducible rfl)); simp only [Act.put, List.setIfInBounds_toArray, List.set_cons_zero, List.set_cons_succ])
  ((with_reducible apply E_run); rfl; rfl; (intro w M; go_simp; (try go_ints); (try simp only [↓IntWalk.iteOmega]); (try with_reducible rfl)); simp only [Act.put, List.setIfInBounds_toArray, List.set_cons_zero, List.set_cons_succ])
  ((with_reducible apply E_run); rfl; rfl; (intro w M; exact run_loadCell (M.kept.row hc (by simp)) rfl k9 Salg.underlying115 rfl); simp only [Act.put, List.setIfInBounds_toArray, List.set_cons_zero, List.set_cons_succ])
  ((with_reducible apply E_run); rfl; rfl; (intro w M; go_simp; (try go_ints); (try simp only [↓IntWalk.iteOmega]); (try with_reducible rfl)); simp only [Act.put, List.setIfInBounds_toArray, List.set_cons_zero, List.set_cons_succ])
  ((with_reducible apply E_run); rfl; rfl; (intro w M; go_simp; (try go_ints); (try simp only [↓IntWalk.iteOmega]); (try with_reducible rfl)); simp only [Act.put, List.setIfInBounds_toArray, List.set_cons_zero, List.set_cons_succ])
  ((with_reducible apply E_run); rfl; rfl; (intro w M; go_simp; (try go_ints); (try simp only [↓IntWalk.iteOmega]); (try with_reducible rfl)); simp only [Act.put, List.setIfInBounds_toArray, List.set_cons_zero, List.set_cons_succ])
  ((with_reducible apply E_run); rfl; rfl; (intro w M; go_simp; (try go_ints); (try simp only [↓IntWalk.iteOmega]); (try with_reducible rfl)); simp only [Act.put, List.setIfInBounds_toArray, List.set_cons_zero, List.set_cons_succ])
  refine E_nil ?_
  intro w9 K M
  clear K
  refine S_done ?_
  go_wp2_with fail
  refine S_region (by kernel_rfl) ?_
  refine E_float 0 55 [0, 1, 2, 3, 4, 5, 6, 7, 8, 9, 10, 11, 12, 13, 14, 17, 18, 19, 20, 22, 23, 24, 25, 26, 28, 29, 30, 31, 32, 33, 34, 35, 36, 37, 38, 39, 41, 42, 43, 44, 46, 47, 48, 49, 50, 51, 52, 15, 16, 21, 27, 40, 45, 53] 54 5 _ (by kernel_rfl) ⟨⟨_, _, _, _, _, rfl, zero56, rfl⟩⟩ (by simp) M.drew ?_
  clear M
  simp only [List.filterMap_cons, List.filterMap_nil, List.getElem?_cons_zero, List.getElem?_cons_succ]
  ((with_reducible apply E_run); rfl; rfl; (intro w M; go_simp; (try go_ints); (try simp only [↓IntWalk.iteOmega]); (try with_reducible rfl)); simp only [Act.put, List.setIfInBounds_toArray, List.set_cons_zero, List.set_cons_succ])
  ((with_reducible apply E_run); rfl; rfl; (intro w M; go_simp; (try go_ints); (try simp only [↓IntWalk.iteOmega]); (try with_reducible rfl)); simp only [Act.put, List.setIfInBounds_toArray, List.set_cons_zero, List.set_cons_succ])
  ((with_reducible apply E_run); rfl; rfl; (intro w M; go_simp; (try go_ints); (try simp only [↓IntWalk.iteOmega]); (try with_reducible rfl)); simp only [Act.put, List.setIfInBounds_toArray, List.set_cons_zero, List.set_cons_succ])
  ((with_reducible apply E_run); rfl; rfl; (intro w M; exact run_loadCell (M.kept.row hr (by simp)) rfl g2 Salg.underlying4 rfl); simp only [Act.put, List.setIfInBounds_toArray, List.set_cons_zero, List.set_cons_succ])
  ((with_reducible apply E_run); rfl; rfl; (intro w M; go_simp; (try go_ints); (try simp only [↓IntWalk.iteOmega]); (try with_reducible rfl)); simp only [Act.put, List.setIfInBounds_toArray, List.set_cons_zero, List.set_cons_succ])
  ((with_reducible apply E_run); rfl; rfl; (intro w M; go_simp; (try go_ints); (try simp only [↓IntWalk.iteOmega]); (try with_reducible rfl)); simp only [Act.put, List.setIfInBounds_toArray, List.set_cons_zero, List.set_cons_succ])
  ((with_reducible apply E_run); rfl; rfl; (intro w M; go_simp; (try go_ints); (try simp only [↓IntWalk.iteOmega]); (try with_reducible rfl)); simp only [Act.put, List.setIfInBounds_toArray, List.set_cons_zero, List.set_cons_succ])
  ((with_reducible apply E_run); rfl; rfl; (intro w M; exact run_loadCell (M.kept.row hc (by simp)) rfl k9 Salg.underlying115 rfl); simp only [Act.put, List.setIfInBounds_toArray, List.set_cons_zero, List.set_cons_succ])
  ((with_reducible apply E_run); rfl; rfl; (intro w M; go_simp; (try go_ints); (try simp only [↓IntWalk.iteOmega]); (try with_reducible rfl)); simp only [Act.put, List.setIfInBounds_toArray, List.set_cons_zero, List.set_cons_succ])
  ((with_reducible apply E_run); rfl; rfl; (intro w M; go_simp; (try go_ints); (try simp only [↓IntWalk.iteOmega]); (try with_reducible rfl)); simp only [Act.put, List.setIfInBounds_toArray, List.set_cons_zero, List.set_cons_succ])
  ((with_reducible apply E_run); rfl; rfl; (intro w M; go_simp; (try go_ints); (try simp only [↓IntWalk.iteOmega]); (try with_reducible rfl)); simp only [Act.put, List.setIfInBounds_toArray, List.set_cons_zero, List.set_cons_succ])
  ((with_reducible apply E_run); rfl; rfl; (intro w M; go_simp; (try go_ints); (try simp only [↓IntWalk.iteOmega]); (try with_reducible rfl)); simp only [Act.put, List.setIfInBounds_toArray, List.set_cons_zero, List.set_cons_succ])
  ((with_reducible apply E_run); rfl; rfl; (intro w M; go_simp; (try go_ints); (try simp only [↓IntWalk.iteOmega]); (try with_reducible rfl)); simp only [Act.put, List.setIfInBounds_toArray, List.set_cons_zero, List.set_cons_succ])
  ((with_reducible apply E_run); rfl; rfl; (intro w M; go_simp; (try go_ints); (try simp only [↓IntWalk.iteOmega]); (try with_reducible rfl)); simp only [Act.put, List.setIfInBounds_toArray, List.set_cons_zero, List.set_cons_succ])
  ((with_reducible apply E_run); rfl; rfl; (intro w M; exact run_loadCell (M.kept.row hr (by simp)) rfl h3 Salg.underlying89 rfl); simp only [Act.put, List.setIfInBounds_toArray, List.set_cons_zero, List.set_cons_succ])
  ((with_reducible apply E_run); rfl; rfl; (intro w M; go_simp; (try go_ints); (try simp only [↓IntWalk.iteOmega]); (try with_reducible rfl)); simp only [Act.put, List.setIfInBounds_toArray, List.set_cons_zero, List.set_cons_succ])
  ((with_reducible apply E_run); rfl; rfl; (intro w M; go_simp; (try go_ints); (try simp only [↓IntWalk.iteOmega]); (try with_reducible rfl)); simp only [Act.put, List.setIfInBounds_toArray, List.set_cons_zero, List.set_cons_succ])
  ((with_reducible apply E_run); rfl; rfl; (intro w M; go_simp; (try go_ints); (try simp only [↓IntWalk.iteOmega]); (try with_reducible rfl)); simp only [Act.put, List.setIfInBounds_toArray, List.set_cons_zero, List.set_cons_succ])
  ((with_reducible apply E_run); rfl; rfl; (intro w M; exact run_loadCell (M.kept.row hr (by simp)) rfl h4 Salg.underlying89 rfl); simp only [Act.put, List.setIfInBounds_toArray, List.set_cons_zero, List.set_cons_succ])
  ((with_reducible apply E_run); rfl; rfl; (intro w M; go_simp; (try go_ints); (try simp only [↓IntWalk.iteOmega]); (try with_reducible rfl)); simp only [Act.put, List.setIfInBounds_toArray, List.set_cons_zero, List.set_cons_succ])
  ((with_reducible apply E_run); rfl; rfl; (intro w M; go_simp; (try go_ints); (try simp only [↓IntWalk.iteOmega]); (try with_reducible rfl)); simp only [Act.put, List.setIfInBounds_toArray, List.set_cons_zero, List.set_cons_succ])
  ((with_reducible apply E_run); rfl; rfl; (intro w M; go_simp; (try go_ints); (try simp only [↓IntWalk.iteOmega]); (try with_reducible rfl)); simp only [Act.put, List.setIfInBounds_toArray, List.set_cons_zero, List.set_cons_succ])
  ((with_reducible apply E_run); rfl; rfl; (intro w M; go_simp; (try go_ints); (try simp only [↓IntWalk.iteOmega]); (try with_reducible rfl)); simp only [Act.put, List.setIfInBounds_toArray, List.set_cons_zero, List.set_cons_succ])
  ((with_reducible apply E_run); rfl; rfl; (intro w M; exact run_loadCell (M.kept.row hc (by simp)) rfl k3 Salg.underlying89 rfl); simp only [Act.put, List.setIfInBounds_toArray, List.set_cons_zero, List.set_cons_succ])
  ((with_reducible apply E_run); rfl; rfl; (intro w M; go_simp; (try go_ints); (try simp only [↓IntWalk.iteOmega]); (try with_reducible rfl)); simp only [Act.put, List.setIfInBounds_toArray, List.set_cons_zero, List.set_cons_succ])
  ((with_reducible apply E_run); rfl; rfl; (intro w M; go_simp; (try go_ints); (try simp only [↓IntWalk.iteOmega]); (try with_reducible rfl)); simp only [Act.put, List.setIfInBounds_toArray, List.set_cons_zero, List.set_cons_succ])
  ((with_reducible apply E_run); rfl; rfl; (intro w M; go_simp; (try go_ints); (try simp only [↓IntWalk.iteOmega]); (try with_reducible rfl)); simp only [Act.put, List.setIfInBounds_toArray, List.set_cons_zero, List.set_cons_succ])
  ((with_reducible apply E_run (v := .agg ([x0, x1, x2, x3, x4, x5, x6, x7, x8, x9, x10, x11, x12, x13, x14, x15, x16, x17, x18, x19].map n8).toArray)); rfl; rfl; (intro w M; exact run_loadX (n := 20) (M.kept.row hr (by simp)) rfl Salg.underlying45 rfl size45 (by omega) HE1.out); simp only [Act.put, List.setIfInBounds_toArray, List.set_cons_zero, List.set_cons_succ])
  ((with_reducible apply E_run); rfl; rfl; (intro w M; go_simp; (try go_ints); (try simp only [↓IntWalk.iteOmega]); (try with_reducible rfl)); simp only [Act.put, List.setIfInBounds_toArray, List.set_cons_zero, List.set_cons_succ])
  ((with_reducible apply E_run); rfl; rfl; (intro w M; go_simp; (try go_ints); (try simp only [↓IntWalk.iteOmega]); (try with_reducible rfl)); simp only [Act.put, List.setIfInBounds_toArray, List.set_cons_zero, List.set_cons_succ])
  ((with_reducible apply E_run); rfl; rfl; (intro w M; go_simp; (try go_ints); (try simp only [↓IntWalk.iteOmega]); (try with_reducible rfl)); simp only [Act.put, List.setIfInBounds_toArray, List.set_cons_zero, List.set_cons_succ])
  ((with_reducible apply E_run (v := .agg ([y0, y1, y2, y3, y4, y5, y6, y7, y8, y9, y10, y11, y12, y13, y14, y15, y16, y17, y18, y19].map n8).toArray)); rfl; rfl; (intro w M; exact run_loadX (n := 20) (M.kept.row hr (by simp)) rfl Salg.underlying45 rfl size45 (by omega) HE2.out); simp only [Act.put, List.setIfInBounds_toArray, List.set_cons_zero, List.set_cons_succ])
  ((with_reducible apply E_run); rfl; rfl; (intro w M; go_simp; (try go_ints); (try simp only [↓IntWalk.iteOmega]); (try with_reducible rfl)); simp only [Act.put, List.setIfInBounds_toArray, List.set_cons_zero, List.set_cons_succ])
  ((with_reducible apply E_run); rfl; rfl; (intro w M; go_simp; (try go_ints); (try simp only [↓IntWalk.iteOmega]); (try with_reducible rfl)); simp only [Act.put, List.setIfInBounds_toArray, List.set_cons_zero, List.set_cons_succ])
  ((with_reducible apply E_run); rfl; rfl; (intro w M; go_simp; (try go_ints); (try simp only [↓IntWalk.iteOmega]); (try with_reducible rfl)); simp only [Act.put, List.setIfInBounds_toArray, List.set_cons_zero, List.set_cons_succ])
  ((with_reducible apply E_run); rfl; rfl; (intro w M; exact run_loadCell (M.kept.row hr (by simp)) rfl hmv Salg.underlying40 rfl); simp only [Act.put, List.setIfInBounds_toArray, List.set_cons_zero, List.set_cons_succ])
  ((with_reducible apply E_run); rfl; rfl; (intro w M; go_simp; (try go_ints); (try simp only [↓IntWalk.iteOmega]); (try with_reducible rfl)); simp only [Act.put, List.setIfInBounds_toArray, List.set_cons_zero, List.set_cons_succ])
  ((with_reducible apply E_run); rfl; rfl; (intro w M; go_simp; (try go_ints); (try simp only [↓IntWalk.iteOmega]); (try with_reducible rfl)); simp only [Act.put, List.setIfInBounds_toArray, List.set_cons_zero, List.set_cons_succ])
  ((with_reducible apply E_run); rfl; rfl; (intro w M; go_simp; (try go_ints); (try simp only [↓IntWalk.iteOmega]); (try with_reducible rfl)); simp only [Act.put, List.setIfInBounds_toArray, List.set_cons_zero, List.set_cons_succ])
  ((with_reducible apply E_run); rfl; rfl; (intro w M; exact run_loadCell (M.kept.row hc (by simp)) rfl k10 Salg.underlying40 rfl); simp only [Act.put, List.setIfInBounds_toArray, List.set_cons_zero, List.set_cons_succ])
  ((with_reducible apply E_run); rfl; rfl; (intro w M; go_simp; (try go_ints); (try simp only [↓IntWalk.iteOmega]); (try with_reducible rfl)); simp only [Act.put, List.setIfInBounds_toArray, List.set_cons_zero, List.set_cons_succ])
  ((with_reducible apply E_run); rfl; rfl; (intro w M; go_simp; (try go_ints); (try simp only [↓IntWalk.iteOmega]); (try with_reducible rfl)); simp only [Act.put, List.setIfInBounds_toArray, List.set_cons_zero, List.set_cons_succ])
  ((with_reducible apply E_run); rfl; rfl; (intro w M; go_simp; (try go_ints); (try simp only [↓IntWalk.iteOmega]); (try with_reducible rfl)); simp only [Act.put, List.setIfInBounds_toArray, List.set_cons_zero, List.set_cons_succ])
  ((with_reducible apply E_run); rfl; rfl; (intro w M; go_simp; (try go_ints); (try simp only [↓IntWalk.iteOmega]); (try with_reducible rfl)); simp only [Act.put, List.setIfInBounds_toArray, List.set_cons_zero, List.set_cons_succ])
  ((with_reducible apply E_run); rfl; rfl; (intro w M; exact run_loadCell (M.kept.row hc (by simp)) rfl k4 Salg.underlying63 rfl); simp only [Act.put, List.setIfInBounds_toArray, List.set_cons_zero, List.set_cons_succ])
  ((with_reducible apply E_run); rfl; rfl; (intro w M; go_simp; (try go_ints); (try simp only [↓IntWalk.iteOmega]); (try with_reducible rfl)); simp only [Act.put, List.setIfInBounds_toArray, List.set_cons_zero, List.set_cons_succ])
  ((with_reducible apply E_run); rfl; rfl; (intro w M; go_simp; (try go_ints); (try simp only [↓IntWalk.iteOmega]); (try with_reducible rfl)); simp only [Act.put, List.setIfInBounds_toArray, List.set_cons_zero, List.set_cons_succ])
  refine E_call rfl Salg.func101 (by kernel_rfl) (by kernel_rfl) (args := [pv]) rfl ?_
  intro w1 K M
  clear K
  refine (HPV.out _ M.kept).mono ?_
  rintro e w2 ⟨rfl, hw⟩
  replace hw := hw.symm
  subst hw
  refine ⟨_, rfl, Kept.refl _ _, M, ?_⟩
  simp only [Act.put, List.setIfInBounds_toArray, List.set_cons_zero, List.set_cons_succ]
  ((with_reducible apply E_run); rfl; rfl; (intro w M; go_simp; (try go_ints); (try simp only [↓IntWalk.iteOmega]); (try with_reducible rfl)); simp only [Act.put, List.setIfInBounds_toArray, List.set_cons_zero, List.set_cons_succ])
  refine E_call rfl Salg.func101 (by kernel_rfl) (by kernel_rfl) (args := [gv]) rfl ?_
  intro w1 K M
  clear K
  refine (HGV.out _ M.kept).mono ?_
  rintro e w3 ⟨rfl, hw⟩
  replace hw := hw.symm
  subst hw
  refine ⟨_, rfl, Kept.refl _ _, M, ?_⟩
  simp only [Act.put, List.setIfInBounds_toArray, List.set_cons_zero, List.set_cons_succ]
  refine E_call rfl Salg.func101 (by kernel_rfl) (by kernel_rfl) (args := [nilS]) rfl ?_
  intro w1 K M
  clear K
  refine (HRF.out _).mono ?_
  rintro e w4 ⟨rfl, hw⟩
  replace hw := hw.symm
  subst hw
  refine ⟨_, rfl, Kept.refl _ _, M, ?_⟩
  simp only [Act.put, List.setIfInBounds_toArray, List.set_cons_zero, List.set_cons_succ]
  refine E_call rfl Salg.func96 (by kernel_rfl) (by kernel_rfl) (args := [mv]) rfl ?_
  intro w1 K M
  clear K
  refine (bytesOf_all mv mem _ (HMV.out.kept M.kept)).mono ?_
  rintro e w5 ⟨mvv, rfl, xXMV, K⟩
  have XMV := hid xXMV
  clear xXMV
  replace M := M.call K
  refine ⟨_, rfl, K.mono (by simp), M, ?_⟩
  clear K
  simp only [Act.put, List.setIfInBounds_toArray, List.set_cons_zero, List.set_cons_succ]
  refine E_call rfl Salg.func96 (by kernel_rfl) (by kernel_rfl) (args := [rt]) rfl ?_
  intro w1 K M
  clear K
  refine (bytesOf_all rt rd _ (HRT.out.kept M.kept)).mono ?_
  rintro e w5 ⟨rvv, rfl, xXRV, K⟩
  have XRV := hid xXRV
  clear xXRV
  replace M := M.call K
  refine ⟨_, rfl, K.mono (by simp), M, ?_⟩
  clear K
  simp only [Act.put, List.setIfInBounds_toArray, List.set_cons_zero, List.set_cons_succ]
  have HM1 := hid XMV.out.one
  have HR1 := hid XRV.out.one
  ((with_reducible apply E_run (v := .agg (vwG sb 0 m G [x0, x1, x2, x3, x4, x5, x6, x7, x8, x9, x10, x11, x12, x13, x14, x15, x16, x17, x18, x19] [y0, y1, y2, y3, y4, y5, y6, y7, y8, y9, y10, y11, y12, y13, y14, y15, y16, y17, y18, y19] nilS mvv rvv).toArray)); rfl; rfl; (intro w M; obtain ⟨p0, q0, s0, e0⟩ := XMV.out.slice; subst e0; obtain ⟨p1, q1, s1, e1⟩ := XRV.out.slice; subst e1; kernel_rfl); simp only [Act.put, List.setIfInBounds_toArray, List.set_cons_zero, List.set_cons_succ])
  clear XMV XRV
  have HONE : Hid (∀ sv : Value, sv.oneCell' = true → ∀ u ∈ (vwG sb 0 m G [x0, x1, x2, x3, x4, x5, x6, x7, x8, x9, x10, x11, x12, x13, x14, x15, x16, x17, x18, x19] [y0, y1, y2, y3, y4, y5, y6, y7, y8, y9, y10, y11, y12, y13, y14, y15, y16, y17, y18, y19] sv mvv rvv).toArray.toList, u.oneCell' = true) := by
    intro sv hsv
    apply oneL
    have e : ((vwG sb 0 m G [x0, x1, x2, x3, x4, x5, x6, x7, x8, x9, x10, x11, x12, x13, x14, x15, x16, x17, x18, x19] [y0, y1, y2, y3, y4, y5, y6, y7, y8, y9, y10, y11, y12, y13, y14, y15, y16, y17, y18, y19] sv mvv rvv).all fun u => u.oneCell') = (sv.oneCell' && (mvv.oneCell' && (rvv.oneCell' && true))) := by kernel_rfl
    rw [e, hsv, HM1.out, HR1.out]
    rfl
  refine E_nil ?_
  intro w6 K M
  clear K
  intro t5 w7 K ht5 M
  clear K
  simp only [Act.put, List.setIfInBounds_toArray, List.set_cons_zero, List.set_cons_succ]
  refine S_seg 55 56 (by kernel_rfl) (by decide) ?_
  simp only [List.take_succ_cons, List.take_zero, List.drop_zero, List.drop_succ_cons, Nat.sub_zero, Nat.reduceSub]
  go_wp2_with ((with_reducible apply W_storeK (b := t5) (vs := (vwG sb 0 m G [x0, x1, x2, x3, x4, x5, x6, x7, x8, x9, x10, x11, x12, x13, x14, x15, x16, x17, x18, x19] [y0, y1, y2, y3, y4, y5, y6, y7, y8, y9, y10, y11, y12, y13, y14, y15, y16, y17, y18, y19] nilS mvv rvv).toArray)); rfl; rfl; exact M.r0; exact size56; rfl; exact HONE.out nilS rfl; intro w8 K hr3; replace M := Mem.callPut (L1 := []) M (Or.inr ht5) K hr3; clear K hr3; simp only [List.nil_append] at M)
  refine S_done ?_
  obtain ⟨B, hB⟩ : ∃ B : Nat, B = w8.heap.size := ⟨_, rfl⟩
  have h5B : t5 < B := by rw [hB]; exact lt_of_row M.r0
  have h2B : t2 < B := by rw [hB]; exact lt_of_row M.r1
  have hwB : w.heap.size ≤ B := by rw [hB]; exact M.kept.size
  have hBle := Nat.le_of_eq hB
  go_wp2_with ((with_reducible apply W_loadCell); rfl; exact M.kept.row hr (by simp); exact h8; exact Salg.underlying140; rfl; simp only [Act.put, List.setIfInBounds_toArray, List.set_cons_zero, List.set_cons_succ])
  go_loopw [124] (fun iv wr => ∃ (i : Nat) (sv : Value), i ≤ n ∧ iv = .int .i64 i ∧ Mem w [] [(t5, .cells (vwG sb 0 m G [x0, x1, x2, x3, x4, x5, x6, x7, x8, x9, x10, x11, x12, x13, x14, x15, x16, x17, x18, x19] [y0, y1, y2, y3, y4, y5, y6, y7, y8, y9, y10, y11, y12, y13, y14, y15, y16, y17, y18, y19] sv mvv rvv).toArray 56 (0, 0)), (t2, .cells ([.bool false, .bool false, .int .u8 0, .int .u16 0, n64 0, n64 0] ++ (z8 40 ++ [nilS, nilS, nilS, .int .u16 0])).toArray 56 (0, 0))] wr ∧ B ≤ wr.heap.size ∧ wr.ownsRow B 46 32 sv i (wsL (wl.take i))) (fun iv _ => ((n : Int) - intOf iv).toNat)
  case atStart => exact ⟨0, nilS, by omega, rfl, M, hBle, own_nil _ _ _ _⟩
  case round =>
    clear M
    obtain ⟨i, sv, hi, rfl, M, hBw, xO⟩ := hrel
    have HO := hid xO
    clear xO
    rcases Nat.lt_or_ge i n with hlt | hge
    · have hlt2 : i < wl.length := by rw [← HN.out]; exact hlt
      obtain ⟨g, cur, u, rfl, hg, hu, xW⟩ := HWD.out i hlt2
      have HW := hid xW
      have HT := hid (HTK.out i hlt2)
      have HL := hid (HOK.out wl[i] (List.getElem_mem _)).1
      clear xW
      generalize wl[i] = wi at *
      go_wp2_with ((with_reducible apply W_loadCell); rfl; exact M.kept.row hg (by simp); exact hu; exact Salg.underlying89; rfl; simp only [Act.put, List.setIfInBounds_toArray, List.set_cons_zero, List.set_cons_succ])
      refine S_region (by kernel_rfl) ?_
      replace HO := hid (own_kept HO.out (Kept.refl [] _).drew)
      refine E_stage 0 6 [0, 1, 2, 3, 4, 5] (by kernel_rfl) M.drew ?_
      clear M
      simp only [List.filterMap_cons, List.filterMap_nil, List.getElem?_cons_zero, List.getElem?_cons_succ]
      ((with_reducible apply E_run); rfl; rfl; (intro w M; go_simp; (try go_ints); (try simp only [↓IntWalk.iteOmega]); (try with_reducible rfl)); simp only [Act.put, List.setIfInBounds_toArray, List.set_cons_zero, List.set_cons_succ])
      ((with_reducible apply E_run); rfl; rfl; (intro w M; exact run_loadCell (M.r0) rfl (show (vwG sb 0 m G [x0, x1, x2, x3, x4, x5, x6, x7, x8, x9, x10, x11, x12, x13, x14, x15, x16, x17, x18, x19] [y0, y1, y2, y3, y4, y5, y6, y7, y8, y9, y10, y11, y12, y13, y14, y15, y16, y17, y18, y19] sv mvv rvv).toArray[46]? = some sv by kernel_rfl) Salg.underlying54 rfl); simp only [Act.put, List.setIfInBounds_toArray, List.set_cons_zero, List.set_cons_succ])
      ((with_reducible apply E_run); rfl; rfl; (intro w M; go_simp; (try go_ints); (try simp only [↓IntWalk.iteOmega]); (try with_reducible rfl)); simp only [Act.put, List.setIfInBounds_toArray, List.set_cons_zero, List.set_cons_succ])
      refine E_call rfl Salg.func102 (by kernel_rfl) (by kernel_rfl) (args := [u]) rfl ?_
      intro w1 K M
      replace HO := hid (own_kept HO.out K)
      replace hBw := Nat.le_trans hBw K.size
      clear K
      refine (HW.out _ M.kept).mono ?_
      rintro e w9 ⟨rfl, K⟩
      replace HO := hid (own_kept HO.out K)
      replace hBw := Nat.le_trans hBw K.size
      replace M := M.call K
      refine ⟨_, rfl, trivial, M, ?_⟩
      clear K
      simp only [Act.put, List.setIfInBounds_toArray, List.set_cons_zero, List.set_cons_succ]
      refine E_buildIt (vs := (wi.map n8).toArray) (s := 32) rfl rfl Salg.underlying54 size46 zero46s (by simp [HL.out]) (by decide) (by decide) ?_
      intro bn wa wb K1 hbn hbn2 K2 M
      replace HO := hid (own_kept (own_kept HO.out K1) K2)
      replace hBw := Nat.le_trans hBw (Nat.le_trans K1.size K2.size)
      clear K1 K2
      simp only [Act.put, List.setIfInBounds_toArray, List.set_cons_zero, List.set_cons_succ]
      refine E_appendIt (base := B) (n := i) (m := 1) (s := 32) (bn := bn) (so := 0) (xs := wsL (wl.take i)) (news := wi.map n8) (cs := (wi.map n8).toArray) info46 Salg.underlying54 rfl (by decide) (by decide) rfl rfl HO.out (by omega) M.r0 (by simp [HL.out]) (cells_news _) (n8_one _) hwB hBw (apart2 (own_old HO.out h5B) (own_old HO.out h2B)) ?_
      clear M
      intro VV wc wd K1 M xO hb3 K2
      rw [HT.out] at xO
      have HOW := hid xO
      clear xO K1 K2
      simp only [Act.put, List.setIfInBounds_toArray, List.set_cons_zero, List.set_cons_succ]
      refine E_nil ?_
      intro w10 K M
      replace HOW := hid (own_kept HOW.out K)
      replace hb3 := Nat.le_trans hb3 K.size
      clear K
      refine S_seg 6 8 (by kernel_rfl) (by decide) ?_
      simp only [List.take_succ_cons, List.take_zero, List.drop_zero, List.drop_succ_cons, Nat.sub_zero, Nat.reduceSub]
      have HV1 : Hid (VV.oneCell' = true) := own_one HOW.out
      go_wp2_with ((with_reducible apply W_stV (b := t5) (o := 46) (v := VV)); rfl; rfl; exact HV1.out; exact M.r0; exact size54; exact Nat.le_of_ble_eq_true (by kernel_rfl); intro w11 K hr3; rw [show (vwG sb 0 m G [x0, x1, x2, x3, x4, x5, x6, x7, x8, x9, x10, x11, x12, x13, x14, x15, x16, x17, x18, x19] [y0, y1, y2, y3, y4, y5, y6, y7, y8, y9, y10, y11, y12, y13, y14, y15, y16, y17, y18, y19] sv mvv rvv).toArray.setIfInBounds 46 VV = (vwG sb 0 m G [x0, x1, x2, x3, x4, x5, x6, x7, x8, x9, x10, x11, x12, x13, x14, x15, x16, x17, x18, x19] [y0, y1, y2, y3, y4, y5, y6, y7, y8, y9, y10, y11, y12, y13, y14, y15, y16, y17, y18, y19] VV mvv rvv).toArray from by kernel_rfl] at hr3; replace HOW := hid (own_keptC HOW.out K M.r0 (by decide)); replace hb3 := Nat.le_trans hb3 K.size; replace M := Mem.callPut (L1 := []) M (Or.inr ht5) K hr3; clear K hr3; simp only [List.nil_append] at M)
      refine S_done ?_
      go_wp2_with fail
      go_roundw
      case rel => exact ⟨i + 1, VV, by omega, by go_num, M, hb3, HOW.out⟩
      case measure => simp [intOf]; omega
    · have hin : n = i := by omega
      subst hin
      have HV1 : Hid (sv.oneCell' = true) := own_one HO.out
      go_wp2_with (first
        | ((with_reducible apply W_loadAll); rfl; exact M.r0; exact Salg.underlying56; rfl; exact size56; simp only [Act.put, List.setIfInBounds_toArray, List.set_cons_zero, List.set_cons_succ])
        | ((with_reducible apply W_storeK (b := t2) (vs := (vwG sb 0 m G [x0, x1, x2, x3, x4, x5, x6, x7, x8, x9, x10, x11, x12, x13, x14, x15, x16, x17, x18, x19] [y0, y1, y2, y3, y4, y5, y6, y7, y8, y9, y10, y11, y12, y13, y14, y15, y16, y17, y18, y19] sv mvv rvv).toArray)); rfl; rfl; exact M.r1; exact size56; rfl; exact HONE.out sv HV1.out; intro w12 K hr3; replace M := Mem.callPut (L1 := [(t5, _)]) M (Or.inr ht2) K hr3; clear K hr3; simp only [List.cons_append, List.nil_append] at M))
      exact ret_cell1 Salg.results20 rfl M.r1 Salg.underlying56 rfl size56 rfl ⟨sv, mvv, rvv, rfl, HV1.out, HM1.out, HR1.out, M.kept⟩

set_option maxHeartbeats 4000000 in
set_option maxRecDepth 100000 in
theorem viewY2 (c fb cap m G : Nat) (sb : Bool) (E : XEnv) (fs0 : Array Value) (cv rt mv : Value) (ns mem rd sf cl : List Nat) (la : List (List Nat)) (w : World) (hC : ChY w c E (.slice (some ⟨fb, 0, none⟩) 2 cap) rt la) (hF : FrameQ w fb 60 fs0 m G ns mv) (hf : FrB fs0 60 sb cv) (hse : fs0.extract (60 + 12) (60 + 12 + 20) = (sf.map n8).toArray) (hca : fs0.extract (60 + 32) (60 + 32 + 20) = (cl.map n8).toArray) (hsl : sf.length = 20) (hcl : cl.length = 20) (hmem : NatV w mv mem) (hrt : NatV w rt rd) (hm : m ≤ 1000) (hG : G ≤ 1000000) (hns : ∀ N ∈ ns, N < 256 ^ 32) (hl : ns.length ≤ 40) :
    Calls Salg.prog 20 #[.pointer (some ⟨c, 0, none⟩)] w fun e w' => ∃ sv mvv rvv : Value, e = .returned (.agg (vwG sb 1 m G sf cl sv mvv rvv).toArray) ∧ sv.oneCell' = true ∧ mvv.oneCell' = true ∧ rvv.oneCell' = true ∧ Kept [] w w' := by
  have M := Mem.start w []
  obtain ⟨fs, pv, gv, sv, xs, hr, h0, h2, h3, hpv, h4, hgv, h8, hsv, hxs, hmv⟩ := hF
  obtain ⟨wl, hwl, hok⟩ := ex_words ns hns
  have hxl : xs.length = wl.length := by rw [hxs.1, hwl]; simp
  obtain ⟨wz, hc, _⟩ := hC
  have k3 : (chN E wz (.slice (some ⟨fb, 0, none⟩) 2 cap) rt)[3]? = some nilS := chN_get _ _ _ _ (by decide)
  have k4 : (chN E wz (.slice (some ⟨fb, 0, none⟩) 2 cap) rt)[4]? = some nilS := chN_get _ _ _ _ (by decide)
  have k9 : (chN E wz (.slice (some ⟨fb, 0, none⟩) 2 cap) rt)[9]? = some (.slice (some ⟨fb, 0, none⟩) 2 cap) := chN_get _ _ _ _ (by decide)
  have k10 : (chN E wz (.slice (some ⟨fb, 0, none⟩) 2 cap) rt)[10]? = some rt := chN_get _ _ _ _ (by decide)
  have k11 : (chN E wz (.slice (some ⟨fb, 0, none⟩) 2 cap) rt)[11]? = some (.int .u8 1) := chN_get _ _ _ _ (by decide)
  have hfz : 60 + 60 ≤ fs.size := by rw [h0]; exact hf.size
  have g2 := (h2 (60 + 2) (by decide) (by decide) (by decide) (by decide)).trans hf.f2
  have HE1 : Hid (fs.extract (60 + 12) (60 + 12 + 20) = (sf.map n8).toArray) := by
    have e := ext_same (a := 60 + 12) (n := 20) h0 fun k k1 k2 => h2 k (by omega) (by omega) (by omega) (by omega)
    exact e.trans hse
  have HE2 : Hid (fs.extract (60 + 32) (60 + 32 + 20) = (cl.map n8).toArray) := by
    have e := ext_same (a := 60 + 32) (n := 20) h0 fun k k1 k2 => h2 k (by omega) (by omega) (by omega) (by omega)
    exact e.trans hca
  have HPV := hid (fun w' (K : Kept [] w w') => small_any pv m w' (hpv.kept K) (by omega))
  have HGV := hid (fun w' (K : Kept [] w w') => small_any gv G w' (hgv.kept K) (by omega))
  have HRF := hid (fun w' => small_any nilS 0 w' (nil_num _) (by decide))
  have HMV := hid hmem
  have HRT := hid hrt
  obtain ⟨p, cap2, rfl⟩ : ∃ p cap, sv = .slice p xs.length cap := by
    rcases hsv with ⟨rfl, rfl⟩ | ⟨g, cap, cur, rfl, _⟩
    · exact ⟨none, 0, rfl⟩
    · exact ⟨_, _, rfl⟩
  have HWD : Hid (∀ i (hi : i < wl.length), ∃ (g : Nat) (cur : Array Value) (u : Value), p = some ⟨g, 0, none⟩ ∧ w.heap[g]? = some (.cells cur 89 (0, 0)) ∧ cur[i]? = some u ∧ ∀ w', Kept [] w w' → Calls Salg.prog 102 #[u] w' fun e w'' => e = .returned (A8 wl[i]) ∧ Kept [] w' w'') := by
    intro i hi
    obtain ⟨g, cap3, cur, e1, hg, hgc, hcur⟩ := hsv.pos (by omega)
    injection e1 with e1 _ _
    have hu : xs[i]? = some (xs[i]'(by omega)) := List.getElem?_eq_getElem (by omega)
    refine ⟨g, cur, xs[i]'(by omega), e1, hg, by rw [hcur i (by omega), hu], fun w' K => ?_⟩
    have hnum := hxs.2 i _ (be wl[i]) hu (by rw [hwl, List.getElem?_map, List.getElem?_eq_getElem hi]; rfl)
    exact word_any _ wl[i] w' (hnum.kept K) (hok _ (List.getElem_mem _)).1 (hok _ (List.getElem_mem _)).2
  have hll : wl.length ≤ 40 := by rw [← hxl, hxs.1]; exact hl
  rw [hxl] at h8
  have HOK := hid hok
  have HTK := hid (fun i (hi : i < wl.length) => wsL_take hi)
  clear hpv hgv hsv hxs h2 hwl hok hmem hrt hse hca hf h0 hns
  obtain ⟨n, hn⟩ : ∃ n, n = wl.length := ⟨_, rfl⟩
  have HN := hid hn
  rw [← hn] at hll h8
  clear hn hxl
  obtain ⟨x0, x1, x2, x3, x4, x5, x6, x7, x8, x9, x10, x11, x12, x13, x14, x15, x16, x17, x18, x19, rfl⟩ := list20 hsl
  obtain ⟨y0, y1, y2, y3, y4, y5, y6, y7, y8, y9, y10, y11, y12, y13, y14, y15, y16, y17, y18, y19, rfl⟩ := list20 hcl
  go_enter Salg.func20, Salg.ntmps20
  go_wp2_with (first
    | ((with_reducible apply L_allocA (d := 2) M); exact zero56; clear M; intro t2 w1 ht2 M; simp only [Act.put, List.setIfInBounds_toArray, List.set_cons_zero, List.set_cons_succ])
    | ((with_reducible apply W_loadCell); rfl; exact M.kept.row hc (by simp); exact k11; exact Salg.underlying5; rfl; simp only [Act.put, List.setIfInBounds_toArray, List.set_cons_zero, List.set_cons_succ])
    | ((with_reducible apply W_loadCellG); rfl; rfl; exact M.kept.row hc (by simp); exact k9; exact Salg.underlying115; rfl; simp only [Act.put, List.setIfInBounds_toArray, List.set_cons_zero, List.set_cons_succ]))
  refine S_region (by kernel_rfl) ?_
  refine E_stage 0 12 [0, 1, 2, 3, 4, 5, 6, 7, 8, 9, 10, 11] (by kernel_rfl) M.drew ?_
  clear M
  simp only [List.filterMap_cons, List.filterMap_nil, List.getElem?_cons_zero, List.getElem?_cons_succ]
  ((with_reducible apply E_run); rfl; rfl; (intro w M; go_simp; (try go_ints); (try simp only [↓IntWalk.iteOmega]); (try with_reducible rfl)); simp only [Act.put, List.setIfInBounds_toArray, List.set_cons_zero, List.set_cons_succ])
  ((with_reducible apply E_run); rfl; rfl; (intro w M; go_simp; (try go_ints); (try simp only [↓IntWalk.iteOmega]); (try with_reducible rfl)); simp only [Act.put, List.setIfInBounds_toArray, List.set_cons_zero, List.set_cons_succ])
  ((with_reducible apply E_run); rfl; rfl; (intro w M; go_simp; (try go_ints); (try simp only [↓IntWalk.iteOmega]); (try with_reducible rfl)); simp only [Act.put, List.setIfInBounds_toArray, List.set_cons_zero, List.set_cons_succ])
  ((with_reducible apply E_run); rfl; rfl; (intro w M; exact run_loadCell (M.kept.row hc (by simp)) rfl k9 Salg.underlying115 rfl); simp only [Act.put, List.setIfInBounds_toArray, List.set_cons_zero, List.set_cons_succ])
  ((with_reducible apply E_run); rfl; rfl; (intro w M; go_simp; (try go_ints); (try simp only [↓IntWalk.iteOmega]); (try with_reducible rfl)); simp only [Act.put, List.setIfInBounds_toArray, List.set_cons_zero, List.set_cons_succ])
  ((with_reducible apply E_run); rfl; rfl; (intro w M; go_simp; (try go_ints); (try simp only [↓IntWalk.iteOmega]); (try with_reducible rfl)); simp only [Act.put, List.setIfInBounds_toArray, List.set_cons_zero, List.set_cons_succ])
  ((with_reducible apply E_run); rfl; rfl; (intro w M; go_simp; (try go_ints); (try simp only [↓IntWalk.iteOmega]); (try with_reducible rfl)); simp only [Act.put, List.setIfInBounds_toArray, List.set_cons_zero, List.set_cons_succ])
  ((with_reducible apply E_run); rfl; rfl; (intro w M; exact run_loadCell (M.kept.row hc (by simp)) rfl k9 Salg.underlying115 rfl); simp only [Act.put, List.setIfInBounds_toArray, List.set_cons_zero, List.set_cons_succ])
  ((with_reducible apply E_run); rfl; rfl; (intro w M; go_simp; (try go_ints); (try simp only [↓IntWalk.iteOmega]); (try with_reducible rfl)); simp only [Act.put, List.setIfInBounds_toArray, List.set_cons_zero, List.set_cons_succ])
  ((with_reducible apply E_run); rfl; rfl; (intro w M; go_simp; (try go_ints); (try simp only [↓IntWalk.iteOmega]); (try with_reducible rfl)); simp only [Act.put, List.setIfInBounds_toArray, List.set_cons_zero, List.set_cons_succ])
  ((with_reducible apply E_run); rfl; rfl; (intro w M; go_simp; (try go_ints); (try simp only [↓IntWalk.iteOmega]); (try with_reducible rfl)); simp only [Act.put, List.setIfInBounds_toArray, List.set_cons_zero, List.set_cons_succ])
  ((with_reducible apply E_run); rfl; rfl; (intro w M; go_simp; (try go_ints); (try simp only [↓IntWalk.iteOmega]); (try with_reducible rfl)); simp only [Act.put, List.setIfInBounds_toArray, List.set_cons_zero, List.set_cons_succ])
  refine E_nil ?_
  intro w9 K M
  clear K
  refine S_done ?_
  go_wp2_with fail
  refine S_region (by kernel_rfl) ?_
  refine E_float 0 55 [0, 1, 2, 3, 4, 5, 6, 7, 8, 9, 10, 11, 12, 13, 14, 17, 18, 19, 20, 22, 23, 24, 25, 26, 28, 29, 30, 31, 32, 33, 34, 35, 36, 37, 38, 39, 41, 42, 43, 44, 46, 47, 48, 49, 50, 51, 52, 15, 16, 21, 27, 40, 45, 53] 54 5 _ (by kernel_rfl) ⟨⟨_, _, _, _, _, rfl, zero56, rfl⟩⟩ (by simp) M.drew ?_
  clear M
  simp only [List.filterMap_cons, List.filterMap_nil, List.getElem?_cons_zero, List.getElem?_cons_succ]
  ((with_reducible apply E_run); rfl; rfl; (intro w M; go_simp; (try go_ints); (try simp only [↓IntWalk.iteOmega]); (try with_reducible rfl)); simp only [Act.put, List.setIfInBounds_toArray, List.set_cons_zero, List.set_cons_succ])
  ((with_reducible apply E_run); rfl; rfl; (intro w M; go_simp; (try go_ints); (try simp only [↓IntWalk.iteOmega]); (try with_reducible rfl)); simp only [Act.put, List.setIfInBounds_toArray, List.set_cons_zero, List.set_cons_succ])
  ((with_reducible apply E_run); rfl; rfl; (intro w M; go_simp; (try go_ints); (try simp only [↓IntWalk.iteOmega]); (try with_reducible rfl)); simp only [Act.put, List.setIfInBounds_toArray, List.set_cons_zero, List.set_cons_succ])
  ((with_reducible apply E_run); rfl; rfl; (intro w M; exact run_loadCell (M.kept.row hr (by simp)) rfl g2 Salg.underlying4 rfl); simp only [Act.put, List.setIfInBounds_toArray, List.set_cons_zero, List.set_cons_succ])
  ((with_reducible apply E_run); rfl; rfl; (intro w M; go_simp; (try go_ints); (try simp only [↓IntWalk.iteOmega]); (try with_reducible rfl)); simp only [Act.put, List.setIfInBounds_toArray, List.set_cons_zero, List.set_cons_succ])
  ((with_reducible apply E_run); rfl; rfl; (intro w M; go_simp; (try go_ints); (try simp only [↓IntWalk.iteOmega]); (try with_reducible rfl)); simp only [Act.put, List.setIfInBounds_toArray, List.set_cons_zero, List.set_cons_succ])
  ((with_reducible apply E_run); rfl; rfl; (intro w M; go_simp; (try go_ints); (try simp only [↓IntWalk.iteOmega]); (try with_reducible rfl)); simp only [Act.put, List.setIfInBounds_toArray, List.set_cons_zero, List.set_cons_succ])
  ((with_reducible apply E_run); rfl; rfl; (intro w M; exact run_loadCell (M.kept.row hc (by simp)) rfl k9 Salg.underlying115 rfl); simp only [Act.put, List.setIfInBounds_toArray, List.set_cons_zero, List.set_cons_succ])
  ((with_reducible apply E_run); rfl; rfl; (intro w M; go_simp; (try go_ints); (try simp only [↓IntWalk.iteOmega]); (try with_reducible rfl)); simp only [Act.put, List.setIfInBounds_toArray, List.set_cons_zero, List.set_cons_succ])
  ((with_reducible apply E_run); rfl; rfl; (intro w M; go_simp; (try go_ints); (try simp only [↓IntWalk.iteOmega]); (try with_reducible rfl)); simp only [Act.put, List.setIfInBounds_toArray, List.set_cons_zero, List.set_cons_succ])
  ((with_reducible apply E_run); rfl; rfl; (intro w M; go_simp; (try go_ints); (try simp only [↓IntWalk.iteOmega]); (try with_reducible rfl)); simp only [Act.put, List.setIfInBounds_toArray, List.set_cons_zero, List.set_cons_succ])
  ((with_reducible apply E_run); rfl; rfl; (intro w M; go_simp; (try go_ints); (try simp only [↓IntWalk.iteOmega]); (try with_reducible rfl)); simp only [Act.put, List.setIfInBounds_toArray, List.set_cons_zero, List.set_cons_succ])
  ((with_reducible apply E_run); rfl; rfl; (intro w M; go_simp; (try go_ints); (try simp only [↓IntWalk.iteOmega]); (try with_reducible rfl)); simp only [Act.put, List.setIfInBounds_toArray, List.set_cons_zero, List.set_cons_succ])
  ((with_reducible apply E_run); rfl; rfl; (intro w M; go_simp; (try go_ints); (try simp only [↓IntWalk.iteOmega]); (try with_reducible rfl)); simp only [Act.put, List.setIfInBounds_toArray, List.set_cons_zero, List.set_cons_succ])
  ((with_reducible apply E_run); rfl; rfl; (intro w M; exact run_loadCell (M.kept.row hr (by simp)) rfl h3 Salg.underlying89 rfl); simp only [Act.put, List.setIfInBounds_toArray, List.set_cons_zero, List.set_cons_succ])
  ((with_reducible apply E_run); rfl; rfl; (intro w M; go_simp; (try go_ints); (try simp only [↓IntWalk.iteOmega]); (try with_reducible rfl)); simp only [Act.put, List.setIfInBounds_toArray, List.set_cons_zero, List.set_cons_succ])
  ((with_reducible apply E_run); rfl; rfl; (intro w M; go_simp; (try go_ints); (try simp only [↓IntWalk.iteOmega]); (try with_reducible rfl)); simp only [Act.put, List.setIfInBounds_toArray, List.set_cons_zero, List.set_cons_succ])
  ((with_reducible apply E_run); rfl; rfl; (intro w M; go_simp; (try go_ints); (try simp only [↓IntWalk.iteOmega]); (try with_reducible rfl)); simp only [Act.put, List.setIfInBounds_toArray, List.set_cons_zero, List.set_cons_succ])
  ((with_reducible apply E_run); rfl; rfl; (intro w M; exact run_loadCell (M.kept.row hr (by simp)) rfl h4 Salg.underlying89 rfl); simp only [Act.put, List.setIfInBounds_toArray, List.set_cons_zero, List.set_cons_succ])
  ((with_reducible apply E_run); rfl; rfl; (intro w M; go_simp; (try go_ints); (try simp only [↓IntWalk.iteOmega]); (try with_reducible rfl)); simp only [Act.put, List.setIfInBounds_toArray, List.set_cons_zero, List.set_cons_succ])
  ((with_reducible apply E_run); rfl; rfl; (intro w M; go_simp; (try go_ints); (try simp only [↓IntWalk.iteOmega]); (try with_reducible rfl)); simp only [Act.put, List.setIfInBounds_toArray, List.set_cons_zero, List.set_cons_succ])
  ((with_reducible apply E_run); rfl; rfl; (intro w M; go_simp; (try go_ints); (try simp only [↓IntWalk.iteOmega]); (try with_reducible rfl)); simp only [Act.put, List.setIfInBounds_toArray, List.set_cons_zero, List.set_cons_succ])
  ((with_reducible apply E_run); rfl; rfl; (intro w M; go_simp; (try go_ints); (try simp only [↓IntWalk.iteOmega]); (try with_reducible rfl)); simp only [Act.put, List.setIfInBounds_toArray, List.set_cons_zero, List.set_cons_succ])
  ((with_reducible apply E_run); rfl; rfl; (intro w M; exact run_loadCell (M.kept.row hc (by simp)) rfl k3 Salg.underlying89 rfl); simp only [Act.put, List.setIfInBounds_toArray, List.set_cons_zero, List.set_cons_succ])
  ((with_reducible apply E_run); rfl; rfl; (intro w M; go_simp; (try go_ints); (try simp only [↓IntWalk.iteOmega]); (try with_reducible rfl)); simp only [Act.put, List.setIfInBounds_toArray, List.set_cons_zero, List.set_cons_succ])
  ((with_reducible apply E_run); rfl; rfl; (intro w M; go_simp; (try go_ints); (try simp only [↓IntWalk.iteOmega]); (try with_reducible rfl)); simp only [Act.put, List.setIfInBounds_toArray, List.set_cons_zero, List.set_cons_succ])
  ((with_reducible apply E_run); rfl; rfl; (intro w M; go_simp; (try go_ints); (try simp only [↓IntWalk.iteOmega]); (try with_reducible rfl)); simp only [Act.put, List.setIfInBounds_toArray, List.set_cons_zero, List.set_cons_succ])
  ((with_reducible apply E_run (v := .agg ([x0, x1, x2, x3, x4, x5, x6, x7, x8, x9, x10, x11, x12, x13, x14, x15, x16, x17, x18, x19].map n8).toArray)); rfl; rfl; (intro w M; exact run_loadX (n := 20) (M.kept.row hr (by simp)) rfl Salg.underlying45 rfl size45 (by omega) HE1.out); simp only [Act.put, List.setIfInBounds_toArray, List.set_cons_zero, List.set_cons_succ])
  ((with_reducible apply E_run); rfl; rfl; (intro w M; go_simp; (try go_ints); (try simp only [↓IntWalk.iteOmega]); (try with_reducible rfl)); simp only [Act.put, List.setIfInBounds_toArray, List.set_cons_zero, List.set_cons_succ])
  ((with_reducible apply E_run); rfl; rfl; (intro w M; go_simp; (try go_ints); (try simp only [↓IntWalk.iteOmega]); (try with_reducible rfl)); simp only [Act.put, List.setIfInBounds_toArray, List.set_cons_zero, List.set_cons_succ])
  ((with_reducible apply E_run); rfl; rfl; (intro w M; go_simp; (try go_ints); (try simp only [↓IntWalk.iteOmega]); (try with_reducible rfl)); simp only [Act.put, List.setIfInBounds_toArray, List.set_cons_zero, List.set_cons_succ])
  ((with_reducible apply E_run (v := .agg ([y0, y1, y2, y3, y4, y5, y6, y7, y8, y9, y10, y11, y12, y13, y14, y15, y16, y17, y18, y19].map n8).toArray)); rfl; rfl; (intro w M; exact run_loadX (n := 20) (M.kept.row hr (by simp)) rfl Salg.underlying45 rfl size45 (by omega) HE2.out); simp only [Act.put, List.setIfInBounds_toArray, List.set_cons_zero, List.set_cons_succ])
  ((with_reducible apply E_run); rfl; rfl; (intro w M; go_simp; (try go_ints); (try simp only [↓IntWalk.iteOmega]); (try with_reducible rfl)); simp only [Act.put, List.setIfInBounds_toArray, List.set_cons_zero, List.set_cons_succ])
  ((with_reducible apply E_run); rfl; rfl; (intro w M; go_simp; (try go_ints); (try simp only [↓IntWalk.iteOmega]); (try with_reducible rfl)); simp only [Act.put, List.setIfInBounds_toArray, List.set_cons_zero, List.set_cons_succ])
  ((with_reducible apply E_run); rfl; rfl; (intro w M; go_simp; (try go_ints); (try simp only [↓IntWalk.iteOmega]); (try with_reducible rfl)); simp only [Act.put, List.setIfInBounds_toArray, List.set_cons_zero, List.set_cons_succ])
  ((with_reducible apply E_run); rfl; rfl; (intro w M; exact run_loadCell (M.kept.row hr (by simp)) rfl hmv Salg.underlying40 rfl); simp only [Act.put, List.setIfInBounds_toArray, List.set_cons_zero, List.set_cons_succ])
  ((with_reducible apply E_run); rfl; rfl; (intro w M; go_simp; (try go_ints); (try simp only [↓IntWalk.iteOmega]); (try with_reducible rfl)); simp only [Act.put, List.setIfInBounds_toArray, List.set_cons_zero, List.set_cons_succ])
  ((with_reducible apply E_run); rfl; rfl; (intro w M; go_simp; (try go_ints); (try simp only [↓IntWalk.iteOmega]); (try with_reducible rfl)); simp only [Act.put, List.setIfInBounds_toArray, List.set_cons_zero, List.set_cons_succ])
  ((with_reducible apply E_run); rfl; rfl; (intro w M; go_simp; (try go_ints); (try simp only [↓IntWalk.iteOmega]); (try with_reducible rfl)); simp only [Act.put, List.setIfInBounds_toArray, List.set_cons_zero, List.set_cons_succ])
  ((with_reducible apply E_run); rfl; rfl; (intro w M; exact run_loadCell (M.kept.row hc (by simp)) rfl k10 Salg.underlying40 rfl); simp only [Act.put, List.setIfInBounds_toArray, List.set_cons_zero, List.set_cons_succ])
  ((with_reducible apply E_run); rfl; rfl; (intro w M; go_simp; (try go_ints); (try simp only [↓IntWalk.iteOmega]); (try with_reducible rfl)); simp only [Act.put, List.setIfInBounds_toArray, List.set_cons_zero, List.set_cons_succ])
  ((with_reducible apply E_run); rfl; rfl; (intro w M; go_simp; (try go_ints); (try simp only [↓IntWalk.iteOmega]); (try with_reducible rfl)); simp only [Act.put, List.setIfInBounds_toArray, List.set_cons_zero, List.set_cons_succ])
  ((with_reducible apply E_run); rfl; rfl; (intro w M; go_simp; (try go_ints); (try simp only [↓IntWalk.iteOmega]); (try with_reducible rfl)); simp only [Act.put, List.setIfInBounds_toArray, List.set_cons_zero, List.set_cons_succ])
  ((with_reducible apply E_run); rfl; rfl; (intro w M; go_simp; (try go_ints); (try simp only [↓IntWalk.iteOmega]); (try with_reducible rfl)); simp only [Act.put, List.setIfInBounds_toArray, List.set_cons_zero, List.set_cons_succ])
  ((with_reducible apply E_run); rfl; rfl; (intro w M; exact run_loadCell (M.kept.row hc (by simp)) rfl k4 Salg.underlying63 rfl); simp only [Act.put, List.setIfInBounds_toArray, List.set_cons_zero, List.set_cons_succ])
  ((with_reducible apply E_run); rfl; rfl; (intro w M; go_simp; (try go_ints); (try simp only [↓IntWalk.iteOmega]); (try with_reducible rfl)); simp only [Act.put, List.setIfInBounds_toArray, List.set_cons_zero, List.set_cons_succ])
  ((with_reducible apply E_run); rfl; rfl; (intro w M; go_simp; (try go_ints); (try simp only [↓IntWalk.iteOmega]); (try with_reducible rfl)); simp only [Act.put, List.setIfInBounds_toArray, List.set_cons_zero, List.set_cons_succ])
  refine E_call rfl Salg.func101 (by kernel_rfl) (by kernel_rfl) (args := [pv]) rfl ?_
  intro w1 K M
  clear K
  refine (HPV.out _ M.kept).mono ?_
  rintro e w2 ⟨rfl, hw⟩
  replace hw := hw.symm
  subst hw
  refine ⟨_, rfl, Kept.refl _ _, M, ?_⟩
  simp only [Act.put, List.setIfInBounds_toArray, List.set_cons_zero, List.set_cons_succ]
  ((with_reducible apply E_run); rfl; rfl; (intro w M; go_simp; (try go_ints); (try simp only [↓IntWalk.iteOmega]); (try with_reducible rfl)); simp only [Act.put, List.setIfInBounds_toArray, List.set_cons_zero, List.set_cons_succ])
  refine E_call rfl Salg.func101 (by kernel_rfl) (by kernel_rfl) (args := [gv]) rfl ?_
  intro w1 K M
  clear K
  refine (HGV.out _ M.kept).mono ?_
  rintro e w3 ⟨rfl, hw⟩
  replace hw := hw.symm
  subst hw
  refine ⟨_, rfl, Kept.refl _ _, M, ?_⟩
  simp only [Act.put, List.setIfInBounds_toArray, List.set_cons_zero, List.set_cons_succ]
  refine E_call rfl Salg.func101 (by kernel_rfl) (by kernel_rfl) (args := [nilS]) rfl ?_
  intro w1 K M
  clear K
  refine (HRF.out _).mono ?_
  rintro e w4 ⟨rfl, hw⟩
  replace hw := hw.symm
  subst hw
  refine ⟨_, rfl, Kept.refl _ _, M, ?_⟩
  simp only [Act.put, List.setIfInBounds_toArray, List.set_cons_zero, List.set_cons_succ]
  refine E_call rfl Salg.func96 (by kernel_rfl) (by kernel_rfl) (args := [mv]) rfl ?_
  intro w1 K M
  clear K
  refine (bytesOf_all mv mem _ (HMV.out.kept M.kept)).mono ?_
  rintro e w5 ⟨mvv, rfl, xXMV, K⟩
  have XMV := hid xXMV
  clear xXMV
  replace M := M.call K
  refine ⟨_, rfl, K.mono (by simp), M, ?_⟩
  clear K
  simp only [Act.put, List.setIfInBounds_toArray, List.set_cons_zero, List.set_cons_succ]
  refine E_call rfl Salg.func96 (by kernel_rfl) (by kernel_rfl) (args := [rt]) rfl ?_
  intro w1 K M
  clear K
  refine (bytesOf_all rt rd _ (HRT.out.kept M.kept)).mono ?_
  rintro e w5 ⟨rvv, rfl, xXRV, K⟩
  have XRV := hid xXRV
  clear xXRV
  replace M := M.call K
  refine ⟨_, rfl, K.mono (by simp), M, ?_⟩
  clear K
  simp only [Act.put, List.setIfInBounds_toArray, List.set_cons_zero, List.set_cons_succ]
  have HM1 := hid XMV.out.one
  have HR1 := hid XRV.out.one
  ((with_reducible apply E_run (v := .agg (vwG sb 1 m G [x0, x1, x2, x3, x4, x5, x6, x7, x8, x9, x10, x11, x12, x13, x14, x15, x16, x17, x18, x19] [y0, y1, y2, y3, y4, y5, y6, y7, y8, y9, y10, y11, y12, y13, y14, y15, y16, y17, y18, y19] nilS mvv rvv).toArray)); rfl; rfl; (intro w M; obtain ⟨p0, q0, s0, e0⟩ := XMV.out.slice; subst e0; obtain ⟨p1, q1, s1, e1⟩ := XRV.out.slice; subst e1; kernel_rfl); simp only [Act.put, List.setIfInBounds_toArray, List.set_cons_zero, List.set_cons_succ])
  clear XMV XRV
  have HONE : Hid (∀ sv : Value, sv.oneCell' = true → ∀ u ∈ (vwG sb 1 m G [x0, x1, x2, x3, x4, x5, x6, x7, x8, x9, x10, x11, x12, x13, x14, x15, x16, x17, x18, x19] [y0, y1, y2, y3, y4, y5, y6, y7, y8, y9, y10, y11, y12, y13, y14, y15, y16, y17, y18, y19] sv mvv rvv).toArray.toList, u.oneCell' = true) := by
    intro sv hsv
    apply oneL
    have e : ((vwG sb 1 m G [x0, x1, x2, x3, x4, x5, x6, x7, x8, x9, x10, x11, x12, x13, x14, x15, x16, x17, x18, x19] [y0, y1, y2, y3, y4, y5, y6, y7, y8, y9, y10, y11, y12, y13, y14, y15, y16, y17, y18, y19] sv mvv rvv).all fun u => u.oneCell') = (sv.oneCell' && (mvv.oneCell' && (rvv.oneCell' && true))) := by kernel_rfl
    rw [e, hsv, HM1.out, HR1.out]
    rfl
  refine E_nil ?_
  intro w6 K M
  clear K
  intro t5 w7 K ht5 M
  clear K
  simp only [Act.put, List.setIfInBounds_toArray, List.set_cons_zero, List.set_cons_succ]
  refine S_seg 55 56 (by kernel_rfl) (by decide) ?_
  simp only [List.take_succ_cons, List.take_zero, List.drop_zero, List.drop_succ_cons, Nat.sub_zero, Nat.reduceSub]
  go_wp2_with ((with_reducible apply W_storeK (b := t5) (vs := (vwG sb 1 m G [x0, x1, x2, x3, x4, x5, x6, x7, x8, x9, x10, x11, x12, x13, x14, x15, x16, x17, x18, x19] [y0, y1, y2, y3, y4, y5, y6, y7, y8, y9, y10, y11, y12, y13, y14, y15, y16, y17, y18, y19] nilS mvv rvv).toArray)); rfl; rfl; exact M.r0; exact size56; rfl; exact HONE.out nilS rfl; intro w8 K hr3; replace M := Mem.callPut (L1 := []) M (Or.inr ht5) K hr3; clear K hr3; simp only [List.nil_append] at M)
  refine S_done ?_
  obtain ⟨B, hB⟩ : ∃ B : Nat, B = w8.heap.size := ⟨_, rfl⟩
  have h5B : t5 < B := by rw [hB]; exact lt_of_row M.r0
  have h2B : t2 < B := by rw [hB]; exact lt_of_row M.r1
  have hwB : w.heap.size ≤ B := by rw [hB]; exact M.kept.size
  have hBle := Nat.le_of_eq hB
  go_wp2_with ((with_reducible apply W_loadCell); rfl; exact M.kept.row hr (by simp); exact h8; exact Salg.underlying140; rfl; simp only [Act.put, List.setIfInBounds_toArray, List.set_cons_zero, List.set_cons_succ])
  go_loopw [124] (fun iv wr => ∃ (i : Nat) (sv : Value), i ≤ n ∧ iv = .int .i64 i ∧ Mem w [] [(t5, .cells (vwG sb 1 m G [x0, x1, x2, x3, x4, x5, x6, x7, x8, x9, x10, x11, x12, x13, x14, x15, x16, x17, x18, x19] [y0, y1, y2, y3, y4, y5, y6, y7, y8, y9, y10, y11, y12, y13, y14, y15, y16, y17, y18, y19] sv mvv rvv).toArray 56 (0, 0)), (t2, .cells ([.bool false, .bool false, .int .u8 0, .int .u16 0, n64 0, n64 0] ++ (z8 40 ++ [nilS, nilS, nilS, .int .u16 0])).toArray 56 (0, 0))] wr ∧ B ≤ wr.heap.size ∧ wr.ownsRow B 46 32 sv i (wsL (wl.take i))) (fun iv _ => ((n : Int) - intOf iv).toNat)
  case atStart => exact ⟨0, nilS, by omega, rfl, M, hBle, own_nil _ _ _ _⟩
  case round =>
    clear M
    obtain ⟨i, sv, hi, rfl, M, hBw, xO⟩ := hrel
    have HO := hid xO
    clear xO
    rcases Nat.lt_or_ge i n with hlt | hge
    · have hlt2 : i < wl.length := by rw [← HN.out]; exact hlt
      obtain ⟨g, cur, u, rfl, hg, hu, xW⟩ := HWD.out i hlt2
      have HW := hid xW
      have HT := hid (HTK.out i hlt2)
      have HL := hid (HOK.out wl[i] (List.getElem_mem _)).1
      clear xW
      generalize wl[i] = wi at *
      go_wp2_with ((with_reducible apply W_loadCell); rfl; exact M.kept.row hg (by simp); exact hu; exact Salg.underlying89; rfl; simp only [Act.put, List.setIfInBounds_toArray, List.set_cons_zero, List.set_cons_succ])
      refine S_region (by kernel_rfl) ?_
      replace HO := hid (own_kept HO.out (Kept.refl [] _).drew)
      refine E_stage 0 6 [0, 1, 2, 3, 4, 5] (by kernel_rfl) M.drew ?_
      clear M
      simp only [List.filterMap_cons, List.filterMap_nil, List.getElem?_cons_zero, List.getElem?_cons_succ]
      ((with_reducible apply E_run); rfl; rfl; (intro w M; go_simp; (try go_ints); (try simp only [↓IntWalk.iteOmega]); (try with_reducible rfl)); simp only [Act.put, List.setIfInBounds_toArray, List.set_cons_zero, List.set_cons_succ])
      ((with_reducible apply E_run); rfl; rfl; (intro w M; exact run_loadCell (M.r0) rfl (show (vwG sb 1 m G [x0, x1, x2, x3, x4, x5, x6, x7, x8, x9, x10, x11, x12, x13, x14, x15, x16, x17, x18, x19] [y0, y1, y2, y3, y4, y5, y6, y7, y8, y9, y10, y11, y12, y13, y14, y15, y16, y17, y18, y19] sv mvv rvv).toArray[46]? = some sv by kernel_rfl) Salg.underlying54 rfl); simp only [Act.put, List.setIfInBounds_toArray, List.set_cons_zero, List.set_cons_succ])
      ((with_reducible apply E_run); rfl; rfl; (intro w M; go_simp; (try go_ints); (try simp only [↓IntWalk.iteOmega]); (try with_reducible rfl)); simp only [Act.put, List.setIfInBounds_toArray, List.set_cons_zero, List.set_cons_succ])
      refine E_call rfl Salg.func102 (by kernel_rfl) (by kernel_rfl) (args := [u]) rfl ?_
      intro w1 K M
      replace HO := hid (own_kept HO.out K)
      replace hBw := Nat.le_trans hBw K.size
      clear K
      refine (HW.out _ M.kept).mono ?_
      rintro e w9 ⟨rfl, K⟩
      replace HO := hid (own_kept HO.out K)
      replace hBw := Nat.le_trans hBw K.size
      replace M := M.call K
      refine ⟨_, rfl, trivial, M, ?_⟩
      clear K
      simp only [Act.put, List.setIfInBounds_toArray, List.set_cons_zero, List.set_cons_succ]
      refine E_buildIt (vs := (wi.map n8).toArray) (s := 32) rfl rfl Salg.underlying54 size46 zero46s (by simp [HL.out]) (by decide) (by decide) ?_
      intro bn wa wb K1 hbn hbn2 K2 M
      replace HO := hid (own_kept (own_kept HO.out K1) K2)
      replace hBw := Nat.le_trans hBw (Nat.le_trans K1.size K2.size)
      clear K1 K2
      simp only [Act.put, List.setIfInBounds_toArray, List.set_cons_zero, List.set_cons_succ]
      refine E_appendIt (base := B) (n := i) (m := 1) (s := 32) (bn := bn) (so := 0) (xs := wsL (wl.take i)) (news := wi.map n8) (cs := (wi.map n8).toArray) info46 Salg.underlying54 rfl (by decide) (by decide) rfl rfl HO.out (by omega) M.r0 (by simp [HL.out]) (cells_news _) (n8_one _) hwB hBw (apart2 (own_old HO.out h5B) (own_old HO.out h2B)) ?_
      clear M
      intro VV wc wd K1 M xO hb3 K2
      rw [HT.out] at xO
      have HOW := hid xO
      clear xO K1 K2
      simp only [Act.put, List.setIfInBounds_toArray, List.set_cons_zero, List.set_cons_succ]
      refine E_nil ?_
      intro w10 K M
      replace HOW := hid (own_kept HOW.out K)
      replace hb3 := Nat.le_trans hb3 K.size
      clear K
      refine S_seg 6 8 (by kernel_rfl) (by decide) ?_
      simp only [List.take_succ_cons, List.take_zero, List.drop_zero, List.drop_succ_cons, Nat.sub_zero, Nat.reduceSub]
      have HV1 : Hid (VV.oneCell' = true) := own_one HOW.out
      go_wp2_with ((with_reducible apply W_stV (b := t5) (o := 46) (v := VV)); rfl; rfl; exact HV1.out; exact M.r0; exact size54; exact Nat.le_of_ble_eq_true (by kernel_rfl); intro w11 K hr3; rw [show (vwG sb 1 m G [x0, x1, x2, x3, x4, x5, x6, x7, x8, x9, x10, x11, x12, x13, x14, x15, x16, x17, x18, x19] [y0, y1, y2, y3, y4, y5, y6, y7, y8, y9, y10, y11, y12, y13, y14, y15, y16, y17, y18, y19] sv mvv rvv).toArray.setIfInBounds 46 VV = (vwG sb 1 m G [x0, x1, x2, x3, x4, x5, x6, x7, x8, x9, x10, x11, x12, x13, x14, x15, x16, x17, x18, x19] [y0, y1, y2, y3, y4, y5, y6, y7, y8, y9, y10, y11, y12, y13, y14, y15, y16, y17, y18, y19] VV mvv rvv).toArray from by kernel_rfl] at hr3; replace HOW := hid (own_keptC HOW.out K M.r0 (by decide)); replace hb3 := Nat.le_trans hb3 K.size; replace M := Mem.callPut (L1 := []) M (Or.inr ht5) K hr3; clear K hr3; simp only [List.nil_append] at M)
      refine S_done ?_
      go_wp2_with fail
      go_roundw
      case rel => exact ⟨i + 1, VV, by omega, by go_num, M, hb3, HOW.out⟩
      case measure => simp [intOf]; omega
    · have hin : n = i := by omega
      subst hin
      have HV1 : Hid (sv.oneCell' = true) := own_one HO.out
      go_wp2_with (first
        | ((with_reducible apply W_loadAll); rfl; exact M.r0; exact Salg.underlying56; rfl; exact size56; simp only [Act.put, List.setIfInBounds_toArray, List.set_cons_zero, List.set_cons_succ])
        | ((with_reducible apply W_storeK (b := t2) (vs := (vwG sb 1 m G [x0, x1, x2, x3, x4, x5, x6, x7, x8, x9, x10, x11, x12, x13, x14, x15, x16, x17, x18, x19] [y0, y1, y2, y3, y4, y5, y6, y7, y8, y9, y10, y11, y12, y13, y14, y15, y16, y17, y18, y19] sv mvv rvv).toArray)); rfl; rfl; exact M.r1; exact size56; rfl; exact HONE.out sv HV1.out; intro w12 K hr3; replace M := Mem.callPut (L1 := [(t5, _)]) M (Or.inr ht2) K hr3; clear K hr3; simp only [List.cons_append, List.nil_append] at M))
      exact ret_cell1 Salg.results20 rfl M.r1 Salg.underlying56 rfl size56 rfl ⟨sv, mvv, rvv, rfl, HV1.out, HM1.out, HR1.out, M.kept⟩

set_option maxHeartbeats 4000000 in
set_option maxRecDepth 100000 in
theorem viewY3 (c fb cap m G : Nat) (sb : Bool) (E : XEnv) (fs0 : Array Value) (cv rt mv : Value) (ns mem rd sf cl : List Nat) (la : List (List Nat)) (w : World) (hC : ChY w c E (.slice (some ⟨fb, 0, none⟩) 3 cap) rt la) (hF : FrameQ w fb 120 fs0 m G ns mv) (hf : FrB fs0 120 sb cv) (hse : fs0.extract (120 + 12) (120 + 12 + 20) = (sf.map n8).toArray) (hca : fs0.extract (120 + 32) (120 + 32 + 20) = (cl.map n8).toArray) (hsl : sf.length = 20) (hcl : cl.length = 20) (hmem : NatV w mv mem) (hrt : NatV w rt rd) (hm : m ≤ 1000) (hG : G ≤ 1000000) (hns : ∀ N ∈ ns, N < 256 ^ 32) (hl : ns.length ≤ 40) :
    Calls Salg.prog 20 #[.pointer (some ⟨c, 0, none⟩)] w fun e w' => ∃ sv mvv rvv : Value, e = .returned (.agg (vwG sb 2 m G sf cl sv mvv rvv).toArray) ∧ sv.oneCell' = true ∧ mvv.oneCell' = true ∧ rvv.oneCell' = true ∧ Kept [] w w' := by
  have M := Mem.start w []
  obtain ⟨fs, pv, gv, sv, xs, hr, h0, h2, h3, hpv, h4, hgv, h8, hsv, hxs, hmv⟩ := hF
  obtain ⟨wl, hwl, hok⟩ := ex_words ns hns
  have hxl : xs.length = wl.length := by rw [hxs.1, hwl]; simp
  obtain ⟨wz, hc, _⟩ := hC
  have k3 : (chN E wz (.slice (some ⟨fb, 0, none⟩) 3 cap) rt)[3]? = some nilS := chN_get _ _ _ _ (by decide)
  have k4 : (chN E wz (.slice (some ⟨fb, 0, none⟩) 3 cap) rt)[4]? = some nilS := chN_get _ _ _ _ (by decide)
  have k9 : (chN E wz (.slice (some ⟨fb, 0, none⟩) 3 cap) rt)[9]? = some (.slice (some ⟨fb, 0, none⟩) 3 cap) := chN_get _ _ _ _ (by decide)
  have k10 : (chN E wz (.slice (some ⟨fb, 0, none⟩) 3 cap) rt)[10]? = some rt := chN_get _ _ _ _ (by decide)
  have k11 : (chN E wz (.slice (some ⟨fb, 0, none⟩) 3 cap) rt)[11]? = some (.int .u8 1) := chN_get _ _ _ _ (by decide)
  have hfz : 120 + 60 ≤ fs.size := by rw [h0]; exact hf.size
  have g2 := (h2 (120 + 2) (by decide) (by decide) (by decide) (by decide)).trans hf.f2
  have HE1 : Hid (fs.extract (120 + 12) (120 + 12 + 20) = (sf.map n8).toArray) := by
    have e := ext_same (a := 120 + 12) (n := 20) h0 fun k k1 k2 => h2 k (by omega) (by omega) (by omega) (by omega)
    exact e.trans hse
  have HE2 : Hid (fs.extract (120 + 32) (120 + 32 + 20) = (cl.map n8).toArray) := by
    have e := ext_same (a := 120 + 32) (n := 20) h0 fun k k1 k2 => h2 k (by omega) (by omega) (by omega) (by omega)
    exact e.trans hca
  have HPV := hid (fun w' (K : Kept [] w w') => small_any pv m w' (hpv.kept K) (by omega))
  have HGV := hid (fun w' (K : Kept [] w w') => small_any gv G w' (hgv.kept K) (by omega))
  have HRF := hid (fun w' => small_any nilS 0 w' (nil_num _) (by decide))
  have HMV := hid hmem
  have HRT := hid hrt
  obtain ⟨p, cap2, rfl⟩ : ∃ p cap, sv = .slice p xs.length cap := by
    rcases hsv with ⟨rfl, rfl⟩ | ⟨g, cap, cur, rfl, _⟩
    · exact ⟨none, 0, rfl⟩
    · exact ⟨_, _, rfl⟩
  have HWD : Hid (∀ i (hi : i < wl.length), ∃ (g : Nat) (cur : Array Value) (u : Value), p = some ⟨g, 0, none⟩ ∧ w.heap[g]? = some (.cells cur 89 (0, 0)) ∧ cur[i]? = some u ∧ ∀ w', Kept [] w w' → Calls Salg.prog 102 #[u] w' fun e w'' => e = .returned (A8 wl[i]) ∧ Kept [] w' w'') := by
    intro i hi
    obtain ⟨g, cap3, cur, e1, hg, hgc, hcur⟩ := hsv.pos (by omega)
    injection e1 with e1 _ _
    have hu : xs[i]? = some (xs[i]'(by omega)) := List.getElem?_eq_getElem (by omega)
    refine ⟨g, cur, xs[i]'(by omega), e1, hg, by rw [hcur i (by omega), hu], fun w' K => ?_⟩
    have hnum := hxs.2 i _ (be wl[i]) hu (by rw [hwl, List.getElem?_map, List.getElem?_eq_getElem hi]; rfl)
    exact word_any _ wl[i] w' (hnum.kept K) (hok _ (List.getElem_mem _)).1 (hok _ (List.getElem_mem _)).2
  have hll : wl.length ≤ 40 := by rw [← hxl, hxs.1]; exact hl
  rw [hxl] at h8
  have HOK := hid hok
  have HTK := hid (fun i (hi : i < wl.length) => wsL_take hi)
  clear hpv hgv hsv hxs h2 hwl hok hmem hrt hse hca hf h0 hns
  obtain ⟨n, hn⟩ : ∃ n, n = wl.length := ⟨_, rfl⟩
  have HN := hid hn
  rw [← hn] at hll h8
  clear hn hxl
  obtain ⟨x0, x1, x2, x3, x4, x5, x6, x7, x8, x9, x10, x11, x12, x13, x14, x15, x16, x17, x18, x19, rfl⟩ := list20 hsl
  obtain ⟨y0, y1, y2, y3, y4, y5, y6, y7, y8, y9, y10, y11, y12, y13, y14, y15, y16, y17, y18, y19, rfl⟩ := list20 hcl
  go_enter Salg.func20, Salg.ntmps20
  go_wp2_with (first
    | ((with_reducible apply L_allocA (d := 2) M); exact zero56; clear M; intro t2 w1 ht2 M; simp only [Act.put, List.setIfInBounds_toArray, List.set_cons_zero, List.set_cons_succ])
    | ((with_reducible apply W_loadCell); rfl; exact M.kept.row hc (by simp); exact k11; exact Salg.underlying5; rfl; simp only [Act.put, List.setIfInBounds_toArray, List.set_cons_zero, List.set_cons_succ])
    | ((with_reducible apply W_loadCellG); rfl; rfl; exact M.kept.row hc (by simp); exact k9; exact Salg.underlying115; rfl; simp only [Act.put, List.setIfInBounds_toArray, List.set_cons_zero, List.set_cons_succ]))
  refine S_region (by kernel_rfl) ?_
  refine E_stage 0 12 [0, 1, 2, 3, 4, 5, 6, 7, 8, 9, 10, 11] (by kernel_rfl) M.drew ?_
  clear M
  simp only [List.filterMap_cons, List.filterMap_nil, List.getElem?_cons_zero, List.getElem?_cons_succ]
  ((with_reducible apply E_run); rfl; rfl; (intro w M; go_simp; (try go_ints); (try simp only [↓IntWalk.iteOmega]); (try with_reducible rfl)); simp only [Act.put, List.setIfInBounds_toArray, List.set_cons_zero, List.set_cons_succ])
  ((with_reducible apply E_run); rfl; rfl; (intro w M; go_simp; (try go_ints); (try simp only [↓IntWalk.iteOmega]); (try with_reducible rfl)); simp only [Act.put, List.setIfInBounds_toArray, List.set_cons_zero, List.set_cons_succ])
  ((with_reducible apply E_run); rfl; rfl; (intro w M; go_simp; (try go_ints); (try simp only [↓IntWalk.iteOmega]); (try with_reducible rfl)); simp only [Act.put, List.setIfInBounds_toArray, List.set_cons_zero, List.set_cons_succ])
  ((with_reducible apply E_run); rfl; rfl; (intro w M; exact run_loadCell (M.kept.row hc (by simp)) rfl k9 Salg.underlying115 rfl); simp only [Act.put, List.setIfInBounds_toArray, List.set_cons_zero, List.set_cons_succ])
  ((with_reducible apply E_run); rfl; rfl; (intro w M; go_simp; (try go_ints); (try simp only [↓IntWalk.iteOmega]); (try with_reducible rfl)); simp only [Act.put, List.setIfInBounds_toArray, List.set_cons_zero, List.set_cons_succ])
  ((with_reducible apply E_run); rfl; rfl; (intro w M; go_simp; (try go_ints); (try simp only [↓IntWalk.iteOmega]); (try with_reducible rfl)); simp only [Act.put, List.setIfInBounds_toArray, List.set_cons_zero, List.set_cons_succ])
  ((with_reducible apply E_run); rfl; rfl; (intro w M; go_simp; (try go_ints); (try simp only [↓IntWalk.iteOmega]); (try with_reducible rfl)); simp only [Act.put, List.setIfInBounds_toArray, List.set_cons_zero, List.set_cons_succ])
  ((with_reducible apply E_run); rfl; rfl; (intro w M; exact run_loadCell (M.kept.row hc (by simp)) rfl k9 Salg.underlying115 rfl); simp only [Act.put, List.setIfInBounds_toArray, List.set_cons_zero, List.set_cons_succ])
  ((with_reducible apply E_run); rfl; rfl; (intro w M; go_simp; (try go_ints); (try simp only [↓IntWalk.iteOmega]); (try with_reducible rfl)); simp only [Act.put, List.setIfInBounds_toArray, List.set_cons_zero, List.set_cons_succ])
  ((with_reducible apply E_run); rfl; rfl; (intro w M; go_simp; (try go_ints); (try simp only [↓IntWalk.iteOmega]); (try with_reducible rfl)); simp only [Act.put, List.setIfInBounds_toArray, List.set_cons_zero, List.set_cons_succ])
  ((with_reducible apply E_run); rfl; rfl; (intro w M; go_simp; (try go_ints); (try simp only [↓IntWalk.iteOmega]); (try with_reducible rfl)); simp only [Act.put, List.setIfInBounds_toArray, List.set_cons_zero, List.set_cons_succ])
  ((with_reducible apply E_run); rfl; rfl; (intro w M; go_simp; (try go_ints); (try simp only [↓IntWalk.iteOmega]); (try with_reducible rfl)); simp only [Act.put, List.setIfInBounds_toArray, List.set_cons_zero, List.set_cons_succ])
  refine E_nil ?_
  intro w9 K M
  clear K
  refine S_done ?_
  go_wp2_with fail
  refine S_region (by kernel_rfl) ?_
  refine E_float 0 55 [0, 1, 2, 3, 4, 5, 6, 7, 8, 9, 10, 11, 12, 13, 14, 17, 18, 19, 20, 22, 23, 24, 25, 26, 28, 29, 30, 31, 32, 33, 34, 35, 36, 37, 38, 39, 41, 42, 43, 44, 46, 47, 48, 49, 50, 51, 52, 15, 16, 21, 27, 40, 45, 53] 54 5 _ (by kernel_rfl) ⟨⟨_, _, _, _, _, rfl, zero56, rfl⟩⟩ (by simp) M.drew ?_
  clear M
  simp only [List.filterMap_cons, List.filterMap_nil, List.getElem?_cons_zero, List.getElem?_cons_succ]
  ((with_reducible apply E_run); rfl; rfl; (intro w M; go_simp; (try go_ints); (try simp only [↓IntWalk.iteOmega]); (try with_reducible rfl)); simp only [Act.put, List.setIfInBounds_toArray, List.set_cons_zero, List.set_cons_succ])
  ((with_reducible apply E_run); rfl; rfl; (intro w M; go_simp; (try go_ints); (try simp only [↓IntWalk.iteOmega]); (try with_reducible rfl)); simp only [Act.put, List.setIfInBounds_toArray, List.set_cons_zero, List.set_cons_succ])
  ((with_reducible apply E_run); rfl; rfl; (intro w M; go_simp; (try go_ints); (try simp only [↓IntWalk.iteOmega]); (try with_reducible rfl)); simp only [Act.put, List.setIfInBounds_toArray, List.set_cons_zero, List.set_cons_succ])
  ((with_reducible apply E_run); rfl; rfl; (intro w M; exact run_loadCell (M.kept.row hr (by simp)) rfl g2 Salg.underlying4 rfl); simp only [Act.put, List.setIfInBounds_toArray, List.set_cons_zero, List.set_cons_succ])
  ((with_reducible apply E_run); rfl; rfl; (intro w M; go_simp; (try go_ints); (try simp only [↓IntWalk.iteOmega]); (try with_reducible rfl)); simp only [Act.put, List.setIfInBounds_toArray, List.set_cons_zero, List.set_cons_succ])
  ((with_reducible apply E_run); rfl; rfl; (intro w M; go_simp; (try go_ints); (try simp only [↓IntWalk.iteOmega]); (try with_reducible rfl)); simp only [Act.put, List.setIfInBounds_toArray, List.set_cons_zero, List.set_cons_succ])
  ((with_reducible apply E_run); rfl; rfl; (intro w M; go_simp; (try go_ints); (try simp only [↓IntWalk.iteOmega]); (try with_reducible rfl)); simp only [Act.put, List.setIfInBounds_toArray, List.set_cons_zero, List.set_cons_succ])
  ((with_reducible apply E_run); rfl; rfl; (intro w M; exact run_loadCell (M.kept.row hc (by simp)) rfl k9 Salg.underlying115 rfl); simp only [Act.put, List.setIfInBounds_toArray, List.set_cons_zero, List.set_cons_succ])
  ((with_reducible apply E_run); rfl; rfl; (intro w M; go_simp; (try go_ints); (try simp only [↓IntWalk.iteOmega]); (try with_reducible rfl)); simp only [Act.put, List.setIfInBounds_toArray, List.set_cons_zero, List.set_cons_succ])
  ((with_reducible apply E_run); rfl; rfl; (intro w M; go_simp; (try go_ints); (try simp only [↓IntWalk.iteOmega]); (try with_reducible rfl)); simp only [Act.put, List.setIfInBounds_toArray, List.set_cons_zero, List.set_cons_succ])
  ((with_reducible apply E_run); rfl; rfl; (intro w M; go_simp; (try go_ints); (try simp only [↓IntWalk.iteOmega]); (try with_reducible rfl)); simp only [Act.put, List.setIfInBounds_toArray, List.set_cons_zero, List.set_cons_succ])
  ((with_reducible apply E_run); rfl; rfl; (intro w M; go_simp; (try go_ints); (try simp only [↓IntWalk.iteOmega]); (try with_reducible rfl)); simp only [Act.put, List.setIfInBounds_toArray, List.set_cons_zero, List.set_cons_succ])
  ((with_reducible apply E_run); rfl; rfl; (intro w M; go_simp; (try go_ints); (try simp only [↓IntWalk.iteOmega]); (try with_reducible rfl)); simp only [Act.put, List.setIfInBounds_toArray, List.set_cons_zero, List.set_cons_succ])
  ((with_reducible apply E_run); rfl; rfl; (intro w M; go_simp; (try go_ints); (try simp only [↓IntWalk.iteOmega]); (try with_reducible rfl)); simp only [Act.put, List.setIfInBounds_toArray, List.set_cons_zero, List.set_cons_succ])
  ((with_reducible apply E_run); rfl; rfl; (intro w M; exact run_loadCell (M.kept.row hr (by simp)) rfl h3 Salg.underlying89 rfl); simp only [Act.put, List.setIfInBounds_toArray, List.set_cons_zero, List.set_cons_succ])
  ((with_reducible apply E_run); rfl; rfl; (intro w M; go_simp; (try go_ints); (try simp only [↓IntWalk.iteOmega]); (try with_reducible rfl)); simp only [Act.put, List.setIfInBounds_toArray, List.set_cons_zero, List.set_cons_succ])
  ((with_reducible apply E_run); rfl; rfl; (intro w M; go_simp; (try go_ints); (try simp only [↓IntWalk.iteOmega]); (try with_reducible rfl)); simp only [Act.put, List.setIfInBounds_toArray, List.set_cons_zero, List.set_cons_succ])
  ((with_reducible apply E_run); rfl; rfl; (intro w M; go_simp; (try go_ints); (try simp only [↓IntWalk.iteOmega]); (try with_reducible rfl)); simp only [Act.put, List.setIfInBounds_toArray, List.set_cons_zero, List.set_cons_succ])
  ((with_reducible apply E_run); rfl; rfl; (intro w M; exact run_loadCell (M.kept.row hr (by simp)) rfl h4 Salg.underlying89 rfl); simp only [Act.put, List.setIfInBounds_toArray, List.set_cons_zero, List.set_cons_succ])
  ((with_reducible apply E_run); rfl; rfl; (intro w M; go_simp; (try go_ints); (try simp only [↓IntWalk.iteOmega]); (try with_reducible rfl)); simp only [Act.put, List.setIfInBounds_toArray, List.set_cons_zero, List.set_cons_succ])
  ((with_reducible apply E_run); rfl; rfl; (intro w M; go_simp; (try go_ints); (try simp only [↓IntWalk.iteOmega]); (try with_reducible rfl)); simp only [Act.put, List.setIfInBounds_toArray, List.set_cons_zero, List.set_cons_succ])
  ((with_reducible apply E_run); rfl; rfl; (intro w M; go_simp; (try go_ints); (try simp only [↓IntWalk.iteOmega]); (try with_reducible rfl)); simp only [Act.put, List.setIfInBounds_toArray, List.set_cons_zero, List.set_cons_succ])
  ((with_reducible apply E_run); rfl; rfl; (intro w M; go_simp; (try go_ints); (try simp only [↓IntWalk.iteOmega]); (try with_reducible rfl)); simp only [Act.put, List.setIfInBounds_toArray, List.set_cons_zero, List.set_cons_succ])
  ((with_reducible apply E_run); rfl; rfl; (intro w M; exact run_loadCell (M.kept.row hc (by simp)) rfl k3 Salg.underlying89 rfl); simp only [Act.put, List.setIfInBounds_toArray, List.set_cons_zero, List.set_cons_succ])
  ((with_reducible apply E_run); rfl; rfl; (intro w M; go_simp; (try go_ints); (try simp only [↓IntWalk.iteOmega]); (try with_reducible rfl)); simp only [Act.put, List.setIfInBounds_toArray, List.set_cons_zero, List.set_cons_succ])
  ((with_reducible apply E_run); rfl; rfl; (intro w M; go_simp; (try go_ints); (try simp only [↓IntWalk.iteOmega]); (try with_reducible rfl)); simp only [Act.put, List.setIfInBounds_toArray, List.set_cons_zero, List.set_cons_succ])
  ((with_reducible apply E_run); rfl; rfl; (intro w M; go_simp; (try go_ints); (try simp only [↓IntWalk.iteOmega]); (try with_reducible rfl)); simp only [Act.put, List.setIfInBounds_toArray, List.set_cons_zero, List.set_cons_succ])
  ((with_reducible apply E_run (v := .agg ([x0, x1, x2, x3, x4, x5, x6, x7, x8, x9, x10, x11, x12, x13, x14, x15, x16, x17, x18, x19].map n8).toArray)); rfl; rfl; (intro w M; exact run_loadX (n := 20) (M.kept.row hr (by simp)) rfl Salg.underlying45 rfl size45 (by omega) HE1.out); simp only [Act.put, List.setIfInBounds_toArray, List.set_cons_zero, List.set_cons_succ])
  ((with_reducible apply E_run); rfl; rfl; (intro w M; go_simp; (try go_ints); (try simp only [↓IntWalk.iteOmega]); (try with_reducible rfl)); simp only [Act.put, List.setIfInBounds_toArray, List.set_cons_zero, List.set_cons_succ])
  ((with_reducible apply E_run); rfl; rfl; (intro w M; go_simp; (try go_ints); (try simp only [↓IntWalk.iteOmega]); (try with_reducible rfl)); simp only [Act.put, List.setIfInBounds_toArray, List.set_cons_zero, List.set_cons_succ])
  ((with_reducible apply E_run); rfl; rfl; (intro w M; go_simp; (try go_ints); (try simp only [↓IntWalk.iteOmega]); (try with_reducible rfl)); simp only [Act.put, List.setIfInBounds_toArray, List.set_cons_zero, List.set_cons_succ])
  ((with_reducible apply E_run (v := .agg ([y0, y1, y2, y3, y4, y5, y6, y7, y8, y9, y10, y11, y12, y13, y14, y15, y16, y17, y18, y19].map n8).toArray)); rfl; rfl; (intro w M; exact run_loadX (n := 20) (M.kept.row hr (by simp)) rfl Salg.underlying45 rfl size45 (by omega) HE2.out); simp only [Act.put, List.setIfInBounds_toArray, List.set_cons_zero, List.set_cons_succ])
  ((with_reducible apply E_run); rfl; rfl; (intro w M; go_simp; (try go_ints); (try simp only [↓IntWalk.iteOmega]); (try with_reducible rfl)); simp only [Act.put, List.setIfInBounds_toArray, List.set_cons_zero, List.set_cons_succ])
  ((with_reducible apply E_run); rfl; rfl; (intro w M; go_simp; (try go_ints); (try simp only [↓IntWalk.iteOmega]); (try with_reducible rfl)); simp only [Act.put, List.setIfInBounds_toArray, List.set_cons_zero, List.set_cons_succ])
  ((with_reducible apply E_run); rfl; rfl; (intro w M; go_simp; (try go_ints); (try simp only [↓IntWalk.iteOmega]); (try with_reducible rfl)); simp only [Act.put, List.setIfInBounds_toArray, List.set_cons_zero, List.set_cons_succ])
  ((with_reducible apply E_run); rfl; rfl; (intro w M; exact run_loadCell (M.kept.row hr (by simp)) rfl hmv Salg.underlying40 rfl); simp only [Act.put, List.setIfInBounds_toArray, List.set_cons_zero, List.set_cons_succ])
  ((with_reducible apply E_run); rfl; rfl; (intro w M; go_simp; (try go_ints); (try simp only [↓IntWalk.iteOmega]); (try with_reducible rfl)); simp only [Act.put, List.setIfInBounds_toArray, List.set_cons_zero, List.set_cons_succ])
  ((with_reducible apply E_run); rfl; rfl; (intro w M; go_simp; (try go_ints); (try simp only [↓IntWalk.iteOmega]); (try with_reducible rfl)); simp only [Act.put, List.setIfInBounds_toArray, List.set_cons_zero, List.set_cons_succ])
  ((with_reducible apply E_run); rfl; rfl; (intro w M; go_simp; (try go_ints); (try simp only [↓IntWalk.iteOmega]); (try with_reducible rfl)); simp only [Act.put, List.setIfInBounds_toArray, List.set_cons_zero, List.set_cons_succ])
  ((with_reducible apply E_run); rfl; rfl; (intro w M; exact run_loadCell (M.kept.row hc (by simp)) rfl k10 Salg.underlying40 rfl); simp only [Act.put, List.setIfInBounds_toArray, List.set_cons_zero, List.set_cons_succ])
  ((with_reducible apply E_run); rfl; rfl; (intro w M; go_simp; (try go_ints); (try simp only [↓IntWalk.iteOmega]); (try with_reducible rfl)); simp only [Act.put, List.setIfInBounds_toArray, List.set_cons_zero, List.set_cons_succ])
  ((with_reducible apply E_run); rfl; rfl; (intro w M; go_simp; (try go_ints); (try simp only [↓IntWalk.iteOmega]); (try with_reducible rfl)); simp only [Act.put, List.setIfInBounds_toArray, List.set_cons_zero, List.set_cons_succ])
  ((with_reducible apply E_run); rfl; rfl; (intro w M; go_simp; (try go_ints); (try simp only [↓IntWalk.iteOmega]); (try with_reducible rfl)); simp only [Act.put, List.setIfInBounds_toArray, List.set_cons_zero, List.set_cons_succ])
  ((with_reducible apply E_run); rfl; rfl; (intro w M; go_simp; (try go_ints); (try simp only [↓IntWalk.iteOmega]); (try with_reducible rfl)); simp only [Act.put, List.setIfInBounds_toArray, List.set_cons_zero, List.set_cons_succ])
  ((with_reducible apply E_run); rfl; rfl; (intro w M; exact run_loadCell (M.kept.row hc (by simp)) rfl k4 Salg.underlying63 rfl); simp only [Act.put, List.setIfInBounds_toArray, List.set_cons_zero, List.set_cons_succ])
  ((with_reducible apply E_run); rfl; rfl; (intro w M; go_simp; (try go_ints); (try simp only [↓IntWalk.iteOmega]); (try with_reducible rfl)); simp only [Act.put, List.setIfInBounds_toArray, List.set_cons_zero, List.set_cons_succ])
  ((with_reducible apply E_run); rfl; rfl; (intro w M; go_simp; (try go_ints); (try simp only [↓IntWalk.iteOmega]); (try with_reducible rfl)); simp only [Act.put, List.setIfInBounds_toArray, List.set_cons_zero, List.set_cons_succ])
  refine E_call rfl Salg.func101 (by kernel_rfl) (by kernel_rfl) (args := [pv]) rfl ?_
  intro w1 K M
  clear K
  refine (HPV.out _ M.kept).mono ?_
  rintro e w2 ⟨rfl, hw⟩
  replace hw := hw.symm
  subst hw
  refine ⟨_, rfl, Kept.refl _ _, M, ?_⟩
  simp only [Act.put, List.setIfInBounds_toArray, List.set_cons_zero, List.set_cons_succ]
  ((with_reducible apply E_run); rfl; rfl; (intro w M; go_simp; (try go_ints); (try simp only [↓IntWalk.iteOmega]); (try with_reducible rfl)); simp only [Act.put, List.setIfInBounds_toArray, List.set_cons_zero, List.set_cons_succ])
  refine E_call rfl Salg.func101 (by kernel_rfl) (by kernel_rfl) (args := [gv]) rfl ?_
  intro w1 K M
  clear K
  refine (HGV.out _ M.kept).mono ?_
  rintro e w3 ⟨rfl, hw⟩
  replace hw := hw.symm
  subst hw
  refine ⟨_, rfl, Kept.refl _ _, M, ?_⟩
  simp only [Act.put, List.setIfInBounds_toArray, List.set_cons_zero, List.set_cons_succ]
  refine E_call rfl Salg.func101 (by kernel_rfl) (by kernel_rfl) (args := [nilS]) rfl ?_
  intro w1 K M
  clear K
  refine (HRF.out _).mono ?_
  rintro e w4 ⟨rfl, hw⟩
  replace hw := hw.symm
  subst hw
  refine ⟨_, rfl, Kept.refl _ _, M, ?_⟩
  simp only [Act.put, List.setIfInBounds_toArray, List.set_cons_zero, List.set_cons_succ]
  refine E_call rfl Salg.func96 (by kernel_rfl) (by kernel_rfl) (args := [mv]) rfl ?_
  intro w1 K M
  clear K
  refine (bytesOf_all mv mem _ (HMV.out.kept M.kept)).mono ?_
  rintro e w5 ⟨mvv, rfl, xXMV, K⟩
  have XMV := hid xXMV
  clear xXMV
  replace M := M.call K
  refine ⟨_, rfl, K.mono (by simp), M, ?_⟩
  clear K
  simp only [Act.put, List.setIfInBounds_toArray, List.set_cons_zero, List.set_cons_succ]
  refine E_call rfl Salg.func96 (by kernel_rfl) (by kernel_rfl) (args := [rt]) rfl ?_
  intro w1 K M
  clear K
  refine (bytesOf_all rt rd _ (HRT.out.kept M.kept)).mono ?_
  rintro e w5 ⟨rvv, rfl, xXRV, K⟩
  have XRV := hid xXRV
  clear xXRV
  replace M := M.call K
  refine ⟨_, rfl, K.mono (by simp), M, ?_⟩
  clear K
  simp only [Act.put, List.setIfInBounds_toArray, List.set_cons_zero, List.set_cons_succ]
  have HM1 := hid XMV.out.one
  have HR1 := hid XRV.out.one
  ((with_reducible apply E_run (v := .agg (vwG sb 2 m G [x0, x1, x2, x3, x4, x5, x6, x7, x8, x9, x10, x11, x12, x13, x14, x15, x16, x17, x18, x19] [y0, y1, y2, y3, y4, y5, y6, y7, y8, y9, y10, y11, y12, y13, y14, y15, y16, y17, y18, y19] nilS mvv rvv).toArray)); rfl; rfl; (intro w M; obtain ⟨p0, q0, s0, e0⟩ := XMV.out.slice; subst e0; obtain ⟨p1, q1, s1, e1⟩ := XRV.out.slice; subst e1; kernel_rfl); simp only [Act.put, List.setIfInBounds_toArray, List.set_cons_zero, List.set_cons_succ])
  clear XMV XRV
  have HONE : Hid (∀ sv : Value, sv.oneCell' = true → ∀ u ∈ (vwG sb 2 m G [x0, x1, x2, x3, x4, x5, x6, x7, x8, x9, x10, x11, x12, x13, x14, x15, x16, x17, x18, x19] [y0, y1, y2, y3, y4, y5, y6, y7, y8, y9, y10, y11, y12, y13, y14, y15, y16, y17, y18, y19] sv mvv rvv).toArray.toList, u.oneCell' = true) := by
    intro sv hsv
    apply oneL
    have e : ((vwG sb 2 m G [x0, x1, x2, x3, x4, x5, x6, x7, x8, x9, x10, x11, x12, x13, x14, x15, x16, x17, x18, x19] [y0, y1, y2, y3, y4, y5, y6, y7, y8, y9, y10, y11, y12, y13, y14, y15, y16, y17, y18, y19] sv mvv rvv).all fun u => u.oneCell') = (sv.oneCell' && (mvv.oneCell' && (rvv.oneCell' && true))) := by kernel_rfl
    rw [e, hsv, HM1.out, HR1.out]
    rfl
  refine E_nil ?_
  intro w6 K M
  clear K
  intro t5 w7 K ht5 M
  clear K
  simp only [Act.put, List.setIfInBounds_toArray, List.set_cons_zero, List.set_cons_succ]
  refine S_seg 55 56 (by kernel_rfl) (by decide) ?_
  simp only [List.take_succ_cons, List.take_zero, List.drop_zero, List.drop_succ_cons, Nat.sub_zero, Nat.reduceSub]
  go_wp2_with ((with_reducible apply W_storeK (b := t5) (vs := (vwG sb 2 m G [x0, x1, x2, x3, x4, x5, x6, x7, x8, x9, x10, x11, x12, x13, x14, x15, x16, x17, x18, x19] [y0, y1, y2, y3, y4, y5, y6, y7, y8, y9, y10, y11, y12, y13, y14, y15, y16, y17, y18, y19] nilS mvv rvv).toArray)); rfl; rfl; exact M.r0; exact size56; rfl; exact HONE.out nilS rfl; intro w8 K hr3; replace M := Mem.callPut (L1 := []) M (Or.inr ht5) K hr3; clear K hr3; simp only [List.nil_append] at M)
  refine S_done ?_
  obtain ⟨B, hB⟩ : ∃ B : Nat, B = w8.heap.size := ⟨_, rfl⟩
  have h5B : t5 < B := by rw [hB]; exact lt_of_row M.r0
  have h2B : t2 < B := by rw [hB]; exact lt_of_row M.r1
  have hwB : w.heap.size ≤ B := by rw [hB]; exact M.kept.size
  have hBle := Nat.le_of_eq hB
  go_wp2_with ((with_reducible apply W_loadCell); rfl; exact M.kept.row hr (by simp); exact h8; exact Salg.underlying140; rfl; simp only [Act.put, List.setIfInBounds_toArray, List.set_cons_zero, List.set_cons_succ])
  go_loopw [124] (fun iv wr => ∃ (i : Nat) (sv : Value), i ≤ n ∧ iv = .int .i64 i ∧ Mem w [] [(t5, .cells (vwG sb 2 m G [x0, x1, x2, x3, x4, x5, x6, x7, x8, x9, x10, x11, x12, x13, x14, x15, x16, x17, x18, x19] [y0, y1, y2, y3, y4, y5, y6, y7, y8, y9, y10, y11, y12, y13, y14, y15, y16, y17, y18, y19] sv mvv rvv).toArray 56 (0, 0)), (t2, .cells ([.bool false, .bool false, .int .u8 0, .int .u16 0, n64 0, n64 0] ++ (z8 40 ++ [nilS, nilS, nilS, .int .u16 0])).toArray 56 (0, 0))] wr ∧ B ≤ wr.heap.size ∧ wr.ownsRow B 46 32 sv i (wsL (wl.take i))) (fun iv _ => ((n : Int) - intOf iv).toNat)
  case atStart => exact ⟨0, nilS, by omega, rfl, M, hBle, own_nil _ _ _ _⟩
  case round =>
    clear M
    obtain ⟨i, sv, hi, rfl, M, hBw, xO⟩ := hrel
    have HO := hid xO
    clear xO
    rcases Nat.lt_or_ge i n with hlt | hge
    · have hlt2 : i < wl.length := by rw [← HN.out]; exact hlt
      obtain ⟨g, cur, u, rfl, hg, hu, xW⟩ := HWD.out i hlt2
      have HW := hid xW
      have HT := hid (HTK.out i hlt2)
      have HL := hid (HOK.out wl[i] (List.getElem_mem _)).1
      clear xW
      generalize wl[i] = wi at *
      go_wp2_with ((with_reducible apply W_loadCell); rfl; exact M.kept.row hg (by simp); exact hu; exact Salg.underlying89; rfl; simp only [Act.put, List.setIfInBounds_toArray, List.set_cons_zero, List.set_cons_succ])
      refine S_region (by kernel_rfl) ?_
      replace HO := hid (own_kept HO.out (Kept.refl [] _).drew)
      refine E_stage 0 6 [0, 1, 2, 3, 4, 5] (by kernel_rfl) M.drew ?_
      clear M
      simp only [List.filterMap_cons, List.filterMap_nil, List.getElem?_cons_zero, List.getElem?_cons_succ]
      ((with_reducible apply E_run); rfl; rfl; (intro w M; go_simp; (try go_ints); (try simp only [↓IntWalk.iteOmega]); (try with_reducible rfl)); simp only [Act.put, List.setIfInBounds_toArray, List.set_cons_zero, List.set_cons_succ])
      ((with_reducible apply E_run); rfl; rfl; (intro w M; exact run_loadCell (M.r0) rfl (show (vwG sb 2 m G [x0, x1, x2, x3, x4, x5, x6, x7, x8, x9, x10, x11, x12, x13, x14, x15, x16, x17, x18, x19] [y0, y1, y2, y3, y4, y5, y6, y7, y8, y9, y10, y11, y12, y13, y14, y15, y16, y17, y18, y19] sv mvv rvv).toArray[46]? = some sv by kernel_rfl) Salg.underlying54 rfl); simp only [Act.put, List.setIfInBounds_toArray, List.set_cons_zero, List.set_cons_succ])
      ((with_reducible apply E_run); rfl; rfl; (intro w M; go_simp; (try go_ints); (try simp only [↓IntWalk.iteOmega]); (try with_reducible rfl)); simp only [Act.put, List.setIfInBounds_toArray, List.set_cons_zero, List.set_cons_succ])
      refine E_call rfl Salg.func102 (by kernel_rfl) (by kernel_rfl) (args := [u]) rfl ?_
      intro w1 K M
      replace HO := hid (own_kept HO.out K)
      replace hBw := Nat.le_trans hBw K.size
      clear K
      refine (HW.out _ M.kept).mono ?_
      rintro e w9 ⟨rfl, K⟩
      replace HO := hid (own_kept HO.out K)
      replace hBw := Nat.le_trans hBw K.size
      replace M := M.call K
      refine ⟨_, rfl, trivial, M, ?_⟩
      clear K
      simp only [Act.put, List.setIfInBounds_toArray, List.set_cons_zero, List.set_cons_succ]
      refine E_buildIt (vs := (wi.map n8).toArray) (s := 32) rfl rfl Salg.underlying54 size46 zero46s (by simp [HL.out]) (by decide) (by decide) ?_
      intro bn wa wb K1 hbn hbn2 K2 M
      replace HO := hid (own_kept (own_kept HO.out K1) K2)
      replace hBw := Nat.le_trans hBw (Nat.le_trans K1.size K2.size)
      clear K1 K2
      simp only [Act.put, List.setIfInBounds_toArray, List.set_cons_zero, List.set_cons_succ]
      refine E_appendIt (base := B) (n := i) (m := 1) (s := 32) (bn := bn) (so := 0) (xs := wsL (wl.take i)) (news := wi.map n8) (cs := (wi.map n8).toArray) info46 Salg.underlying54 rfl (by decide) (by decide) rfl rfl HO.out (by omega) M.r0 (by simp [HL.out]) (cells_news _) (n8_one _) hwB hBw (apart2 (own_old HO.out h5B) (own_old HO.out h2B)) ?_
      clear M
      intro VV wc wd K1 M xO hb3 K2
      rw [HT.out] at xO
      have HOW := hid xO
      clear xO K1 K2
      simp only [Act.put, List.setIfInBounds_toArray, List.set_cons_zero, List.set_cons_succ]
      refine E_nil ?_
      intro w10 K M
      replace HOW := hid (own_kept HOW.out K)
      replace hb3 := Nat.le_trans hb3 K.size
      clear K
      refine S_seg 6 8 (by kernel_rfl) (by decide) ?_
      simp only [List.take_succ_cons, List.take_zero, List.drop_zero, List.drop_succ_cons, Nat.sub_zero, Nat.reduceSub]
      have HV1 : Hid (VV.oneCell' = true) := own_one HOW.out
      go_wp2_with ((with_reducible apply W_stV (b := t5) (o := 46) (v := VV)); rfl; rfl; exact HV1.out; exact M.r0; exact size54; exact Nat.le_of_ble_eq_true (by kernel_rfl); intro w11 K hr3; rw [show (vwG sb 2 m G [x0, x1, x2, x3, x4, x5, x6, x7, x8, x9, x10, x11, x12, x13, x14, x15, x16, x17, x18, x19] [y0, y1, y2, y3, y4, y5, y6, y7, y8, y9, y10, y11, y12, y13, y14, y15, y16, y17, y18, y19] sv mvv rvv).toArray.setIfInBounds 46 VV = (vwG sb 2 m G [x0, x1, x2, x3, x4, x5, x6, x7, x8, x9, x10, x11, x12, x13, x14, x15, x16, x17, x18, x19] [y0, y1, y2, y3, y4, y5, y6, y7, y8, y9, y10, y11, y12, y13, y14, y15, y16, y17, y18, y19] VV mvv rvv).toArray from by kernel_rfl] at hr3; replace HOW := hid (own_keptC HOW.out K M.r0 (by decide)); replace hb3 := Nat.le_trans hb3 K.size; replace M := Mem.callPut (L1 := []) M (Or.inr ht5) K hr3; clear K hr3; simp only [List.nil_append] at M)
      refine S_done ?_
      go_wp2_with fail
      go_roundw
      case rel => exact ⟨i + 1, VV, by omega, by go_num, M, hb3, HOW.out⟩
      case measure => simp [intOf]; omega
    · have hin : n = i := by omega
      subst hin
      have HV1 : Hid (sv.oneCell' = true) := own_one HO.out
      go_wp2_with (first
        | ((with_reducible apply W_loadAll); rfl; exact M.r0; exact Salg.underlying56; rfl; exact size56; simp only [Act.put, List.setIfInBounds_toArray, List.set_cons_zero, List.set_cons_succ])
        | ((with_reducible apply W_storeK (b := t2) (vs := (vwG sb 2 m G [x0, x1, x2, x3, x4, x5, x6, x7, x8, x9, x10, x11, x12, x13, x14, x15, x16, x17, x18, x19] [y0, y1, y2, y3, y4, y5, y6, y7, y8, y9, y10, y11, y12, y13, y14, y15, y16, y17, y18, y19] sv mvv rvv).toArray)); rfl; rfl; exact M.r1; exact size56; rfl; exact HONE.out sv HV1.out; intro w12 K hr3; replace M := Mem.callPut (L1 := [(t5, _)]) M (Or.inr ht2) K hr3; clear K hr3; simp only [List.cons_append, List.nil_append] at M))
      exact ret_cell1 Salg.results20 rfl M.r1 Salg.underlying56 rfl size56 rfl ⟨sv, mvv, rvv, rfl, HV1.out, HM1.out, HR1.out, M.kept⟩
end Go.Proofs.YgcsalGreat

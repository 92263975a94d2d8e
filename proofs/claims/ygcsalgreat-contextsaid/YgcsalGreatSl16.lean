/-
  Frames at an offset of their block: the walks of (*yp.Frame).arg, opcode, read; (*yp.World).goes (nothing goes).
-/
import Derived.Test.YgcsalGreatMv25
import Derived.Test.YgcsalGreatSl3
set_option linter.unusedSimpArgs false
set_option linter.unusedVariables false
namespace Go.Proofs.YgcsalGreat
open Go.RowKit Go.Own
set_option maxHeartbeats 4000000 in
set_option maxRecDepth 100000 in
theorem arg_q (fb q : Nat) (fs : Array Value) (sv u : Value) (xs : List Value) (i : Nat) (w : World) (hr : w.heap[fb]? = some (.cells fs 142 (0, 0))) (h8 : fs[q + 8]? = some sv) (hs : RowV w 89 sv xs) (hi : i < xs.length) (hu : xs[xs.length - 1 - i]? = some u) (hl : xs.length ≤ 1000) :
    Calls Salg.prog 116 #[.pointer (some ⟨fb, q, none⟩), .int .i64 i] w fun e w' => e = .returned u ∧ Kept [] w w' := by
  have M := Mem.start w []
  obtain ⟨g, cap, cur, rfl, hg, hnc, hcs⟩ := hs.pos (by omega)
  have HU : Hid (cur[xs.length - 1 - i]? = some u) := by show _ = _; rw [hcs _ (by omega)]; exact hu
  clear hs hcs hu
  generalize xs.length = n at *
  have d1 : decide ((n : Int) ≤ (i : Int)) = false := by simp; omega
  go_enter Salg.func116, Salg.ntmps116
  go_wp2_with ((with_reducible apply W_loadCell); rfl; exact M.kept.row hr (by simp); exact h8; exact Salg.underlying140; rfl; simp only [Act.put, List.setIfInBounds_toArray, List.set_cons_zero, List.set_cons_succ])
  refine S_region (by kernel_rfl) ?_
  refine V_quiet 0 14 (by kernel_rfl) (by decide) M.drew ?_
  clear M
  simp only [List.take_succ_cons, List.take_zero, List.drop_zero, List.drop_succ_cons, Nat.sub_zero, Nat.reduceSub]
  ((with_reducible apply V_run); rfl; (intro w M; go_simp; (try go_ints); (try simp only [↓IntWalk.iteOmega]); (try with_reducible rfl)); simp only [Act.put, List.setIfInBounds_toArray, List.set_cons_zero, List.set_cons_succ])
  ((with_reducible apply V_run); rfl; (intro w M; go_simp; (try go_ints); (try simp only [↓IntWalk.iteOmega]); (try with_reducible rfl)); simp only [Act.put, List.setIfInBounds_toArray, List.set_cons_zero, List.set_cons_succ])
  ((with_reducible apply V_run); rfl; (intro w M; go_simp; (try go_ints); (try simp only [↓IntWalk.iteOmega]); (try with_reducible rfl)); simp only [Act.put, List.setIfInBounds_toArray, List.set_cons_zero, List.set_cons_succ])
  ((with_reducible apply V_run); rfl; (intro w M; exact run_loadCell (M.kept.row hr (by simp)) rfl h8 Salg.underlying140 rfl); simp only [Act.put, List.setIfInBounds_toArray, List.set_cons_zero, List.set_cons_succ])
  ((with_reducible apply V_run); rfl; (intro w M; go_simp; (try go_ints); (try simp only [↓IntWalk.iteOmega]); (try with_reducible rfl)); simp only [Act.put, List.setIfInBounds_toArray, List.set_cons_zero, List.set_cons_succ])
  ((with_reducible apply V_run); rfl; (intro w M; go_simp; (try go_ints); (try simp only [↓IntWalk.iteOmega]); (try with_reducible rfl)); simp only [Act.put, List.setIfInBounds_toArray, List.set_cons_zero, List.set_cons_succ])
  ((with_reducible apply V_run); rfl; (intro w M; go_simp; (try go_ints); (try simp only [↓IntWalk.iteOmega]); (try with_reducible rfl)); simp only [Act.put, List.setIfInBounds_toArray, List.set_cons_zero, List.set_cons_succ])
  ((with_reducible apply V_run); rfl; (intro w M; exact run_loadCell (M.kept.row hr (by simp)) rfl h8 Salg.underlying140 rfl); simp only [Act.put, List.setIfInBounds_toArray, List.set_cons_zero, List.set_cons_succ])
  ((with_reducible apply V_run); rfl; (intro w M; go_simp; (try go_ints); (try simp only [↓IntWalk.iteOmega]); (try with_reducible rfl)); simp only [Act.put, List.setIfInBounds_toArray, List.set_cons_zero, List.set_cons_succ])
  ((with_reducible apply V_run); rfl; (intro w M; go_simp; (try go_ints); (try simp only [↓IntWalk.iteOmega]); (try with_reducible rfl)); simp only [Act.put, List.setIfInBounds_toArray, List.set_cons_zero, List.set_cons_succ])
  ((with_reducible apply V_run); rfl; (intro w M; go_simp; (try go_ints); (try simp only [↓IntWalk.iteOmega]); (try with_reducible rfl)); simp only [Act.put, List.setIfInBounds_toArray, List.set_cons_zero, List.set_cons_succ])
  ((with_reducible apply V_run); rfl; (intro w M; go_simp; (try go_ints); (try simp only [↓IntWalk.iteOmega]); (try with_reducible rfl)); simp only [Act.put, List.setIfInBounds_toArray, List.set_cons_zero, List.set_cons_succ])
  ((with_reducible apply V_run); rfl; (intro w M; go_simp; (try go_ints); (try simp only [↓IntWalk.iteOmega]); (try with_reducible rfl)); simp only [Act.put, List.setIfInBounds_toArray, List.set_cons_zero, List.set_cons_succ])
  ((with_reducible apply V_run); rfl; (intro w M; exact run_loadCell (M.kept.row hg (by simp)) rfl HU.out Salg.underlying89 rfl); simp only [Act.put, List.setIfInBounds_toArray, List.set_cons_zero, List.set_cons_succ])
  refine V_nil ?_
  intro w4 M
  refine S_seg 14 15 (by kernel_rfl) (by decide) ?_
  simp only [List.take_succ_cons, List.take_zero, List.drop_zero, List.drop_succ_cons, Nat.sub_zero, Nat.reduceSub]
  go_wp2_with fail
  refine S_done ?_
  go_wp2_with fail
  go_ret
  exact ⟨rfl, M.kept⟩

set_option maxHeartbeats 4000000 in
set_option maxRecDepth 100000 in
theorem opcode_q (fb q m o : Nat) (fs : Array Value) (pv cv : Value) (ds : List Nat) (w : World) (hr : w.heap[fb]? = some (.cells fs 142 (0, 0))) (h3 : fs[q + 3]? = some pv) (h10 : fs[q + 10]? = some cv) (hp : NumV w pv m) (hc : NatV w cv ds) (hm : ds[m]? = some o) (hl : ds.length ≤ 1000) :
    Calls Salg.prog 110 #[.pointer (some ⟨fb, q, none⟩)] w fun e w' => e = .returned (n8 o) ∧ Kept [] w w' := by
  have M := Mem.start w []
  have hlt : m < ds.length := (List.getElem?_eq_some_iff.1 hm).1
  obtain ⟨p, c, rfl, hc1, hc2, hd, hsm⟩ := hc
  obtain ⟨b, t, cs, rfl, hrb, hpre⟩ := hd.at hlt
  have HM : Hid ((cs.map n8).toArray[m]? = some (n8 o)) := by
    show _ = _
    have := pre_get hpre hlt
    rw [List.getElem?_eq_getElem hlt] at hm
    simp only [Option.some.injEq] at hm
    simp [this, hm]
  have HP := hid hp
  clear hd hpre hsm hm hp
  generalize ds.length = n at *
  have HPL := hid (fun w' (K : Kept [] w w') => place_in pv m n w' (HP.out.kept K) (by omega) hlt)
  go_enter Salg.func110, Salg.ntmps110
  go_wp2_with fail
  refine S_region (by kernel_rfl) ?_
  refine V_quiet 0 9 (by kernel_rfl) (by decide) M.drew ?_
  clear M
  simp only [List.take_succ_cons, List.take_zero, List.drop_zero, List.drop_succ_cons, Nat.sub_zero, Nat.reduceSub]
  ((with_reducible apply V_run); rfl; (intro w M; go_simp; (try go_ints); (try simp only [↓IntWalk.iteOmega]); (try with_reducible rfl)); simp only [Act.put, List.setIfInBounds_toArray, List.set_cons_zero, List.set_cons_succ])
  ((with_reducible apply V_run); rfl; (intro w M; go_simp; (try go_ints); (try simp only [↓IntWalk.iteOmega]); (try with_reducible rfl)); simp only [Act.put, List.setIfInBounds_toArray, List.set_cons_zero, List.set_cons_succ])
  ((with_reducible apply V_run); rfl; (intro w M; go_simp; (try go_ints); (try simp only [↓IntWalk.iteOmega]); (try with_reducible rfl)); simp only [Act.put, List.setIfInBounds_toArray, List.set_cons_zero, List.set_cons_succ])
  ((with_reducible apply V_run); rfl; (intro w M; exact run_loadCell (M.kept.row hr (by simp)) rfl h3 Salg.underlying89 rfl); simp only [Act.put, List.setIfInBounds_toArray, List.set_cons_zero, List.set_cons_succ])
  ((with_reducible apply V_run); rfl; (intro w M; go_simp; (try go_ints); (try simp only [↓IntWalk.iteOmega]); (try with_reducible rfl)); simp only [Act.put, List.setIfInBounds_toArray, List.set_cons_zero, List.set_cons_succ])
  ((with_reducible apply V_run); rfl; (intro w M; go_simp; (try go_ints); (try simp only [↓IntWalk.iteOmega]); (try with_reducible rfl)); simp only [Act.put, List.setIfInBounds_toArray, List.set_cons_zero, List.set_cons_succ])
  ((with_reducible apply V_run); rfl; (intro w M; go_simp; (try go_ints); (try simp only [↓IntWalk.iteOmega]); (try with_reducible rfl)); simp only [Act.put, List.setIfInBounds_toArray, List.set_cons_zero, List.set_cons_succ])
  ((with_reducible apply V_run); rfl; (intro w M; exact run_loadCell (M.kept.row hr (by simp)) rfl h10 Salg.underlying40 rfl); simp only [Act.put, List.setIfInBounds_toArray, List.set_cons_zero, List.set_cons_succ])
  ((with_reducible apply V_run); rfl; (intro w M; go_simp; (try go_ints); (try simp only [↓IntWalk.iteOmega]); (try with_reducible rfl)); simp only [Act.put, List.setIfInBounds_toArray, List.set_cons_zero, List.set_cons_succ])
  refine V_nil ?_
  intro w4 M
  refine S_seg 9 11 (by kernel_rfl) (by decide) ?_
  simp only [List.take_succ_cons, List.take_zero, List.drop_zero, List.drop_succ_cons, Nat.sub_zero, Nat.reduceSub]
  go_wp2_with fail
  refine (HPL.out _ M.kept).mono ?_
  rintro e w5 ⟨rfl, rfl⟩
  go_wp2_with fail
  refine V_quiet 11 15 (by kernel_rfl) (by decide) M ?_
  clear M
  simp only [List.take_succ_cons, List.take_zero, List.drop_zero, List.drop_succ_cons, Nat.sub_zero, Nat.reduceSub]
  ((with_reducible apply V_run); rfl; (intro w M; go_simp; (try go_ints); (try simp only [↓IntWalk.iteOmega]); (try with_reducible rfl)); simp only [Act.put, List.setIfInBounds_toArray, List.set_cons_zero, List.set_cons_succ])
  ((with_reducible apply V_run); rfl; (intro w M; go_simp; (try go_ints); (try simp only [↓IntWalk.iteOmega]); (try with_reducible rfl)); simp only [Act.put, List.setIfInBounds_toArray, List.set_cons_zero, List.set_cons_succ])
  ((with_reducible apply V_run); rfl; (intro w M; go_simp; (try go_ints); (try simp only [↓IntWalk.iteOmega]); (try with_reducible rfl)); simp only [Act.put, List.setIfInBounds_toArray, List.set_cons_zero, List.set_cons_succ])
  ((with_reducible apply V_run); rfl; (intro w M; go_simp; (try go_ints); (try simp only [↓IntWalk.iteOmega]); (try with_reducible rfl)); simp only [Act.put, List.setIfInBounds_toArray, List.set_cons_zero, List.set_cons_succ])
  refine V_nil ?_
  intro w5 M
  refine S_done ?_
  go_wp2_with (first
    | ((with_reducible apply W_loadCell); rfl; exact M.kept.row hr (by simp); exact h10; exact Salg.underlying40; rfl; simp only [Act.put, List.setIfInBounds_toArray, List.set_cons_zero, List.set_cons_succ])
    | ((with_reducible apply W_loadCell); rfl; exact M.kept.row hrb (by simp); exact HM.out; exact Salg.underlying5; rfl; simp only [Act.put, List.setIfInBounds_toArray, List.set_cons_zero, List.set_cons_succ]))
  go_ret
  exact ⟨rfl, M.kept⟩


set_option maxHeartbeats 4000000 in
set_option maxRecDepth 100000 in
theorem goes_nil (c tc : Nat) (cs : Array Value) (w : World) (hc : w.heap[c]? = some (.cells cs tc (0, 0))) (h7 : cs[7]? = some nilS) : Calls Salg.prog 125 #[.pointer (some ⟨c, 0, none⟩)] w fun e w' => ∃ r, e = .returned r ∧ Kept [] w w' := by
  have M := Mem.start w []
  go_enter Salg.func125, Salg.ntmps125
  go_wp2_with ((with_reducible apply W_loadCell); rfl; exact M.kept.row hc (by simp); exact h7; exact Salg.underlying109; rfl; simp only [Act.put, List.setIfInBounds_toArray, List.set_cons_zero, List.set_cons_succ])
  go_loopw [9] (fun iv wx => iv = .int .i64 0 ∧ Mem w [] [] wx) (fun _ _ => 0)
  case atStart => exact ⟨rfl, M⟩
  case round =>
    clear M
    obtain ⟨rfl, M⟩ := hrel
    go_wp2_with fail
    go_end0
    exact ⟨_, rfl, M.kept⟩

set_option maxHeartbeats 4000000 in
set_option maxRecDepth 100000 in
theorem read_zero (f o n : Value) (w : World) (hn : NumV w n 0) : Calls Salg.prog 115 #[f, o, n] w fun e w' => e = .returned nilS ∧ Kept [] w w' := by
  have M := Mem.start w []
  have HN := hid hn
  clear hn
  go_enter Salg.func115, Salg.ntmps115
  go_wp2_with fail
  refine (isZero_lit n 0 true (by decide) _ HN.out).mono ?_
  rintro e w1 ⟨rfl, K⟩
  replace M := M.call K
  clear K
  go_wp2_with fail
  go_ret
  exact ⟨rfl, M.kept⟩

set_option maxHeartbeats 4000000 in
set_option maxRecDepth 100000 in
theorem read_some (fb q : Nat) (fs : Array Value) (mv o n : Value) (ds : List Nat) (O N : Nat) (w : World) (hr : w.heap[fb]? = some (.cells fs 142 (0, 0))) (h9 : fs[q + 9]? = some mv) (hm : NatV w mv ds) (ho : NumV w o O) (hn : NumV w n N) (hN0 : N ≠ 0) (hN : N ≤ 32) (hl : ds.length ≤ 1000) (hO : O ≤ 2000) : Calls Salg.prog 115 #[.pointer (some ⟨fb, q, none⟩), o, n] w fun e w' => ∃ b, e = .returned (.slice (some ⟨b, 0, none⟩) N N) ∧ w'.heap[b]? = some (R8 5 (cutB ds O N)) ∧ Kept [] w w' := by
  have M := Mem.start w []
  have HN := hid hn
  have HO := hid ho
  have HM := hid hm
  clear hn ho hm
  go_enter Salg.func115, Salg.ntmps115
  go_wp2_with fail
  refine (isZero_lit n N false (by simp [hN0]) _ HN.out).mono ?_
  rintro e w1 ⟨rfl, K⟩
  replace HN := hid (HN.out.kept K)
  replace HO := hid (HO.out.kept K)
  replace HM := hid (HM.out.kept K)
  replace M := M.call K
  clear K
  go_wp2_with ((with_reducible apply W_loadCell); rfl; exact M.kept.row hr (by simp); exact h9; exact Salg.underlying40; rfl; simp only [Act.put, List.setIfInBounds_toArray, List.set_cons_zero, List.set_cons_succ])
  refine (cut_any mv o n ds O N _ HM.out HO.out HN.out hN hl hO).mono ?_
  rintro e w2 ⟨b, rfl, xHB, K⟩
  have HB := hid xHB
  replace M := M.call K
  clear K xHB
  go_wp2_with fail
  go_ret
  exact ⟨b, rfl, HB.out, M.kept⟩
end Go.Proofs.YgcsalGreat

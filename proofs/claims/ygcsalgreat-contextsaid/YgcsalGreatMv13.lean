/-
  The walks of obs.addTo (a sum that is zero) and obs.accountOK.
-/
import Derived.Test.YgcsalGreatMv12
import Derived.Test.YgcsalGreatMv9
set_option linter.unusedSimpArgs false
set_option linter.unusedVariables false
namespace Go.Proofs.YgcsalGreat
open Go.RowKit Go.Own

set_option maxHeartbeats 4000000 in
set_option maxRecDepth 100000 in
theorem addTo_zero (s g o t : Nat) (cs : Array Value) (bal : List Nat) (w : World) (hr : w.heap[s]? = some (R8 46 (List.replicate 32 0))) (hg : w.heap[g]? = some (.cells cs t (0, 0))) (hgs : g ≠ s) (hb : bal.length = 32) (hsb : Small bal) (hcs : ∀ i x, bal[i]? = some x → cs[o + i]? = some (n8 x)) :
    Calls Salg.prog 209 #[.pointer (some ⟨s, 0, none⟩), .pointer (some ⟨g, o, none⟩)] w fun e w' => e = .returned (.bool true) ∧ Kept [s] w w' ∧ w'.heap[s]? = some (R8 46 bal) := by
  have M : Mem w [s] [(s, R8 46 (List.replicate 32 0))] w := (Mem.start w [s]).add hr (by simp)
  have HSB := hid hsb
  clear hr hsb
  go_enter Salg.func209, Salg.ntmps209
  go_wp2_with fail
  go_loopw [5, 6] (fun cv iv wr => ∃ i : Nat, i ≤ 32 ∧ iv = .int .i64 i ∧ cv = .int .u16 0 ∧ Mem w [s] [(s, R8 46 (List.replicate i 0 ++ bal.drop i))] wr) (fun _ iv _ => (intOf iv).toNat)
  case atStart => exact ⟨32, by omega, rfl, rfl, by rw [List.drop_of_length_le (by omega), List.append_nil]; exact M⟩
  case round =>
    clear M
    obtain ⟨i, hi, rfl, rfl, M⟩ := hrel
    match i, hi with
    | 0, hi =>
      rw [List.replicate_zero, List.nil_append, List.drop_zero] at M
      go_wp2_with fail
      go_ret
      exact ⟨rfl, M.kept, M.r0⟩
    | i + 1, hi =>
      have hib : i < bal.length := by omega
      have hgx : cs[o + i]? = some (n8 bal[i]) := hcs i _ (List.getElem?_eq_getElem hib)
      have hx := HSB.out.get hib
      have hz : (List.replicate (i + 1) 0 ++ bal.drop (i + 1))[i]? = some 0 := by rw [List.getElem?_append_left (by simp)]; simp
      have hl : (List.replicate (i + 1) 0 ++ bal.drop (i + 1)).length = 32 := by simp [hb]; omega
      have HST : Hid ((List.replicate (i + 1) 0 ++ bal.drop (i + 1)).set i bal[i] = List.replicate i 0 ++ bal.drop i) := by
        show _ = _
        rw [List.replicate_succ', List.append_assoc, List.set_append_right _ _ (by simp)]
        simp only [List.length_replicate, Nat.sub_self, List.singleton_append, List.set_cons_zero]
        rw [List.drop_eq_getElem_cons hib]
      generalize bal[i] = x at *
      generalize hcur : List.replicate (i + 1) 0 ++ bal.drop (i + 1) = cur at *
      clear hcur
      go_wp2_with fail
      refine S_region (by kernel_rfl) ?_
      refine V_quiet 0 18 (by kernel_rfl) (by decide) M.drew ?_
      clear M
      simp only [List.take_succ_cons, List.take_zero, List.drop_zero, List.drop_succ_cons, Nat.sub_zero, Nat.reduceSub]
      ((with_reducible apply V_run); rfl; (intro w M; go_simp; (try go_ints); (try simp only [↓IntWalk.iteOmega]); (try with_reducible rfl)); simp only [Act.put, List.setIfInBounds_toArray, List.set_cons_zero, List.set_cons_succ])
      ((with_reducible apply V_run); rfl; (intro w M; go_simp; (try go_ints); (try simp only [↓IntWalk.iteOmega]); (try with_reducible rfl)); simp only [Act.put, List.setIfInBounds_toArray, List.set_cons_zero, List.set_cons_succ])
      ((with_reducible apply V_run); rfl; (intro w M; go_simp; (try go_ints); (try simp only [↓IntWalk.iteOmega]); (try with_reducible rfl)); simp only [Act.put, List.setIfInBounds_toArray, List.set_cons_zero, List.set_cons_succ])
      ((with_reducible apply V_run); rfl; (intro w M; go_simp; (try go_ints); (try simp only [↓IntWalk.iteOmega]); (try with_reducible rfl)); simp only [Act.put, List.setIfInBounds_toArray, List.set_cons_zero, List.set_cons_succ])
      ((with_reducible apply V_run); rfl; (intro w M; go_simp; (try go_ints); (try simp only [↓IntWalk.iteOmega]); (try with_reducible rfl)); simp only [Act.put, List.setIfInBounds_toArray, List.set_cons_zero, List.set_cons_succ])
      ((with_reducible apply V_run); rfl; (intro w M; go_simp; (try go_ints); (try simp only [↓IntWalk.iteOmega]); (try with_reducible rfl)); simp only [Act.put, List.setIfInBounds_toArray, List.set_cons_zero, List.set_cons_succ])
      ((with_reducible apply V_run); rfl; (intro w M; exact Go.Own.run_loadCell (i := i) M.r0 rfl (get_map hz) Salg.underlying5 rfl); simp only [Act.put, List.setIfInBounds_toArray, List.set_cons_zero, List.set_cons_succ])
      ((with_reducible apply V_run); rfl; (intro w M; go_simp; (try go_ints); (try simp only [↓IntWalk.iteOmega]); (try with_reducible rfl)); simp only [Act.put, List.setIfInBounds_toArray, List.set_cons_zero, List.set_cons_succ])
      ((with_reducible apply V_run); rfl; (intro w M; go_simp; (try go_ints); (try simp only [↓IntWalk.iteOmega]); (try with_reducible rfl)); simp only [Act.put, List.setIfInBounds_toArray, List.set_cons_zero, List.set_cons_succ])
      ((with_reducible apply V_run); rfl; (intro w M; go_simp; (try go_ints); (try simp only [↓IntWalk.iteOmega]); (try with_reducible rfl)); simp only [Act.put, List.setIfInBounds_toArray, List.set_cons_zero, List.set_cons_succ])
      ((with_reducible apply V_run); rfl; (intro w M; go_simp; (try go_ints); (try simp only [↓IntWalk.iteOmega]); (try with_reducible rfl)); simp only [Act.put, List.setIfInBounds_toArray, List.set_cons_zero, List.set_cons_succ])
      ((with_reducible apply V_run); rfl; (intro w M; go_simp; (try go_ints); (try simp only [↓IntWalk.iteOmega]); (try with_reducible rfl)); simp only [Act.put, List.setIfInBounds_toArray, List.set_cons_zero, List.set_cons_succ])
      ((with_reducible apply V_run); rfl; (intro w M; go_simp; (try go_ints); (try simp only [↓IntWalk.iteOmega]); (try with_reducible rfl)); simp only [Act.put, List.setIfInBounds_toArray, List.set_cons_zero, List.set_cons_succ])
      ((with_reducible apply V_run); rfl; (intro w M; exact Go.Own.run_loadCell (i := o + i) (M.kept.row hg (by simpa using hgs)) rfl hgx Salg.underlying5 rfl); simp only [Act.put, List.setIfInBounds_toArray, List.set_cons_zero, List.set_cons_succ])
      ((with_reducible apply V_run); rfl; (intro w M; go_simp; (try go_ints); (try simp only [↓IntWalk.iteOmega]); (try with_reducible rfl)); simp only [Act.put, List.setIfInBounds_toArray, List.set_cons_zero, List.set_cons_succ])
      ((with_reducible apply V_run); rfl; (intro w M; go_simp; (try go_ints); (try simp only [↓IntWalk.iteOmega]); (try with_reducible rfl)); simp only [Act.put, List.setIfInBounds_toArray, List.set_cons_zero, List.set_cons_succ])
      ((with_reducible apply V_run); rfl; (intro w M; go_simp; (try go_ints); (try simp only [↓IntWalk.iteOmega]); (try with_reducible rfl)); simp only [Act.put, List.setIfInBounds_toArray, List.set_cons_zero, List.set_cons_succ])
      ((with_reducible apply V_run); rfl; (intro w M; go_simp; (try go_ints); (try simp only [↓IntWalk.iteOmega]); (try with_reducible rfl)); simp only [Act.put, List.setIfInBounds_toArray, List.set_cons_zero, List.set_cons_succ])
      refine V_nil ?_
      intro w4 M
      refine S_done ?_
      go_wp2_with ((with_reducible apply W_st8K (b := s) (o := i) (m := x)); rfl; rfl; (first | rfl | omega | go_num | skip); exact M.r0; exact size5; omega; intro w3 K hr3; replace M := Mem.callPut (L1 := []) M (Or.inl (by simp)) K hr3; clear K hr3; simp only [List.cons_append, List.nil_append] at M)
      rw [HST.out] at M
      go_roundw
      case rel => exact ⟨i, by omega, by go_num, by rw [show ((x : Int) / 256) = 0 by omega], M⟩
      case measure => simp [intOf]

set_option maxHeartbeats 4000000 in
set_option maxRecDepth 100000 in
theorem accountOK_nonce (g o t nonce n cap : Nat) (p : Option Addr) (cs : Array Value) (w : World) (hg : w.heap[g]? = some (.cells cs t (0, 0))) (h20 : cs[o + 20]? = some (n64 nonce)) (h53 : cs[o + 53]? = some (.slice p n cap)) (h54 : cs[o + 54]? = some nilS) (hn0 : nonce ≠ 0) (hn : n ≤ 256) :
    Calls Salg.prog 208 #[.pointer (some ⟨g, o, none⟩)] w fun e w' => e = .returned (.bool true) ∧ w' = w := by
  have d0 : ((nonce : Int) == 0) = false := by rw [beq_eq_false_iff_ne]; omega
  have d1 : decide ((256 : Int) < (n : Int)) = false := by simp; omega
  have d2 : decide (256 < n) = false := by simp; omega
  go_enter Salg.func208, Salg.ntmps208
  go_wp2_with (first
    | ((with_reducible apply W_loadCell (i := o + 20) (v := n64 nonce)); rfl; exact hg; exact h20; exact Salg.underlying23; rfl; simp only [Act.put, List.setIfInBounds_toArray, List.set_cons_zero, List.set_cons_succ])
    | ((with_reducible apply W_loadCell (i := o + 53) (v := .slice p n cap)); rfl; exact hg; exact h53; exact Salg.underlying40; rfl; simp only [Act.put, List.setIfInBounds_toArray, List.set_cons_zero, List.set_cons_succ])
    | ((with_reducible apply W_loadCellG (i := o + 54) (v := nilS)); rfl; rfl; exact hg; exact h54; exact Salg.underlying121; rfl; simp only [Act.put, List.setIfInBounds_toArray, List.set_cons_zero, List.set_cons_succ])
    | ((with_reducible apply W_loadCell (i := o + 54) (v := nilS)); rfl; exact hg; exact h54; exact Salg.underlying121; rfl; simp only [Act.put, List.setIfInBounds_toArray, List.set_cons_zero, List.set_cons_succ]))
  go_loopw [3, 52] (fun _ iv wr => iv = .int .i64 0 ∧ wr = w) (fun _ _ _ => 0)
  case atStart => exact ⟨rfl, rfl⟩
  case round =>
    obtain ⟨rfl, rfl⟩ := hrel
    go_wp2_with fail
    go_ret
    exact ⟨rfl, rfl⟩

set_option maxHeartbeats 4000000 in
set_option maxRecDepth 100000 in
theorem accountOK_bal (g o t : Nat) (cs : Array Value) (bal : List Nat) (w : World) (hg : w.heap[g]? = some (.cells cs t (0, 0))) (h20 : cs[o + 20]? = some (n64 0)) (h53 : cs[o + 53]? = some nilS) (h54 : cs[o + 54]? = some nilS) (hb : bal.length = 32) (hx : cs.extract (o + 21) (o + 21 + 32) = (bal.map n8).toArray) (hsz : o + 55 ≤ cs.size) (hnz : bal ≠ List.replicate 32 0) :
    Calls Salg.prog 208 #[.pointer (some ⟨g, o, none⟩)] w fun e w' => e = .returned (.bool true) ∧ w' = w := by
  have HX := hid hx
  have DQ : Hid (decide (bal = List.replicate 32 0) = false) := decide_eq_false hnz
  clear hx hnz
  go_enter Salg.func208, Salg.ntmps208
  go_wp2_with (first
    | ((with_reducible apply W_loadCell (i := o + 20) (v := n64 0)); rfl; exact hg; exact h20; exact Salg.underlying23; rfl; simp only [Act.put, List.setIfInBounds_toArray, List.set_cons_zero, List.set_cons_succ])
    | ((with_reducible apply W_loadCellG (i := o + 53) (v := nilS)); rfl; rfl; exact hg; exact h53; exact Salg.underlying40; rfl; simp only [Act.put, List.setIfInBounds_toArray, List.set_cons_zero, List.set_cons_succ])
    | ((with_reducible apply W_loadCell (i := o + 53) (v := nilS)); rfl; exact hg; exact h53; exact Salg.underlying40; rfl; simp only [Act.put, List.setIfInBounds_toArray, List.set_cons_zero, List.set_cons_succ])
    | ((with_reducible apply L_runG); rfl; exact Go.Own.run_load (n := 32) (o := o + 21) hg rfl Salg.underlying46 rfl size46 (by omega); rw [HX.out]; simp only [Act.put, List.setIfInBounds_toArray, List.set_cons_zero, List.set_cons_succ])
    | ((with_reducible apply L_runG); rfl; exact run_eql8 (l := bal) (l' := List.replicate 32 0) rfl rfl Salg.underlying46 Salg.underlying5 size5 guard46 hb rfl; rw [DQ.out]; simp only [Act.put, List.setIfInBounds_toArray, List.set_cons_zero, List.set_cons_succ])
    | ((with_reducible apply W_loadCellG (i := o + 54) (v := nilS)); rfl; rfl; exact hg; exact h54; exact Salg.underlying121; rfl; simp only [Act.put, List.setIfInBounds_toArray, List.set_cons_zero, List.set_cons_succ])
    | ((with_reducible apply W_loadCell (i := o + 54) (v := nilS)); rfl; exact hg; exact h54; exact Salg.underlying121; rfl; simp only [Act.put, List.setIfInBounds_toArray, List.set_cons_zero, List.set_cons_succ]))
  go_loopw [3, 52] (fun _ iv wr => iv = .int .i64 0 ∧ wr = w) (fun _ _ _ => 0)
  case atStart => exact ⟨rfl, rfl⟩
  case round =>
    obtain ⟨rfl, rfl⟩ := hrel
    go_wp2_with fail
    go_ret
    exact ⟨rfl, rfl⟩
end Go.Proofs.YgcsalGreat

/-
  The walk of (*yp.State).sstore, its parts given.
-/
import Derived.Test.YgcsalGreatSl21
import Derived.Test.YgcsalGreatSl5
set_option linter.unusedSimpArgs false
set_option linter.unusedVariables false
namespace Go.Proofs.YgcsalGreat
open Go.RowKit Go.Own

set_option maxHeartbeats 4000000 in
set_option maxRecDepth 100000 in
theorem sstore_gen (c fb q : Nat) (cs fs : Array Value) (sv kv nv : Value) (xs : List Value) (b : Bool) (V C P : Nat) (w : World) (hc : w.heap[c]? = some (.cells cs 119 (0, 0))) (h8c : cs[8]? = some nilS) (hr : w.heap[fb]? = some (.cells fs 142 (0, 0))) (h8 : fs[q + 8]? = some sv) (hs : RowV w 89 sv xs) (hl : xs.length ≤ 40) (h2 : 2 ≤ xs.length) (hk : xs[xs.length - 1]? = some kv) (hnv : xs[xs.length - 2]? = some nv) (hse : fs.extract (q + 12) (q + 12 + 20) = ((ad 1).map n8).toArray) (hsz : q + 12 + 20 ≤ fs.size)
    (hw : ∀ w', Kept [] w w' → Calls Salg.prog 168 #[.pointer (some ⟨c, 0, none⟩), A8 (ad 1), kv] w' fun e w'' => e = .returned (.bool b) ∧ Kept [] w' w'')
    (hld : ∀ w', Kept [] w w' → Calls Salg.prog 225 #[.pointer (some ⟨c, 0, none⟩), A8 (ad 1), kv] w' fun e w'' => ∃ r, e = .returned r ∧ NumV w'' r V ∧ Kept [] w' w'')
    (hss : ∀ w' vv, Kept [] w w' → NumV w' vv V → Calls Salg.prog 255 #[nilS, vv, nv, .bool (!b)] w' fun e w'' => ∃ c p m, e = .returned (.tuple #[c, p, m]) ∧ NumV w'' c C ∧ NumV w'' p P ∧ NumV w'' m 0 ∧ Kept [] w' w'') :
    Calls Salg.prog 243 #[.pointer (some ⟨c, 0, none⟩), .pointer (some ⟨fb, q, none⟩)] w fun e w' => ∃ c p m, e = .returned (.tuple #[c, p, m]) ∧ NumV w' c C ∧ NumV w' p P ∧ NumV w' m 0 ∧ Kept [] w w' := by
  have M := Mem.start w []
  have HSE := hid hse
  have HW := hid hw
  have HLD := hid hld
  have HSS := hid hss
  have HA0 := hid (fun w' (K : Kept [] w w') => arg_q fb q fs sv kv xs 0 w' (K.row hr (by simp)) h8 (hs.kept K) (by omega) (by simpa using hk) (by omega))
  have HA1 := hid (fun w' (K : Kept [] w w') => arg_q fb q fs sv nv xs 1 w' (K.row hr (by simp)) h8 (hs.kept K) (by omega) (by rw [show xs.length - 1 - 1 = xs.length - 2 by omega]; exact hnv) (by omega))
  clear hs hse hw hld hss
  go_enter Salg.func243, Salg.ntmps243
  go_wp2_with fail
  refine (HA0.out _ M.kept).mono ?_
  rintro e w1 ⟨rfl, K⟩
  replace M := M.call K
  clear K
  go_wp2_with fail
  refine S_region (by kernel_rfl) ?_
  refine E_stage 0 11 [0, 1, 2, 3, 4, 5, 6, 7, 8, 9, 10] (by kernel_rfl) M.drew ?_
  clear M
  simp only [List.filterMap_cons, List.filterMap_nil, List.getElem?_cons_zero, List.getElem?_cons_succ]
  ((with_reducible apply E_run); rfl; rfl; (intro w M; go_simp; (try go_ints); (try simp only [↓IntWalk.iteOmega]); (try with_reducible rfl)); simp only [Act.put, List.setIfInBounds_toArray, List.set_cons_zero, List.set_cons_succ])
  ((with_reducible apply E_run); rfl; rfl; (intro w M; go_simp; (try go_ints); (try simp only [↓IntWalk.iteOmega]); (try with_reducible rfl)); simp only [Act.put, List.setIfInBounds_toArray, List.set_cons_zero, List.set_cons_succ])
  ((with_reducible apply E_run); rfl; rfl; (intro w M; go_simp; (try go_ints); (try simp only [↓IntWalk.iteOmega]); (try with_reducible rfl)); simp only [Act.put, List.setIfInBounds_toArray, List.set_cons_zero, List.set_cons_succ])
  ((with_reducible apply E_run); rfl; rfl; (intro w M; go_simp; (try go_ints); (try simp only [↓IntWalk.iteOmega]); (try with_reducible rfl)); simp only [Act.put, List.setIfInBounds_toArray, List.set_cons_zero, List.set_cons_succ])
  ((with_reducible apply E_run); rfl; rfl; (intro w M; go_simp; (try go_ints); (try simp only [↓IntWalk.iteOmega]); (try with_reducible rfl)); simp only [Act.put, List.setIfInBounds_toArray, List.set_cons_zero, List.set_cons_succ])
  ((with_reducible apply E_run); rfl; rfl; (intro w M; go_simp; (try go_ints); (try simp only [↓IntWalk.iteOmega]); (try with_reducible rfl)); simp only [Act.put, List.setIfInBounds_toArray, List.set_cons_zero, List.set_cons_succ])
  ((with_reducible apply E_run (v := .agg ((ad 1).map n8).toArray)); rfl; rfl; (intro w M; exact run_loadX (n := 20) (M.kept.row hr (by simp)) rfl Salg.underlying45 rfl size45 hsz HSE.out); simp only [Act.put, List.setIfInBounds_toArray, List.set_cons_zero, List.set_cons_succ])
  ((with_reducible apply E_run); rfl; rfl; (intro w M; go_simp; (try go_ints); (try simp only [↓IntWalk.iteOmega]); (try with_reducible rfl)); simp only [Act.put, List.setIfInBounds_toArray, List.set_cons_zero, List.set_cons_succ])
  refine E_call rfl Salg.func168 (by kernel_rfl) (by kernel_rfl) (args := [.pointer (some ⟨c, 0, none⟩), A8 (ad 1), kv]) rfl ?_
  intro w1 K M
  clear K
  refine (HW.out _ M.kept).mono ?_
  rintro e w2 ⟨rfl, K⟩
  replace M := M.call K
  refine ⟨_, rfl, trivial, M, ?_⟩
  clear K
  simp only [Act.put, List.setIfInBounds_toArray, List.set_cons_zero, List.set_cons_succ]
  ((with_reducible apply E_run); rfl; rfl; (intro w M; go_simp; (try go_ints); (try simp only [↓IntWalk.iteOmega]); (try with_reducible rfl)); simp only [Act.put, List.setIfInBounds_toArray, List.set_cons_zero, List.set_cons_succ])
  ((with_reducible apply E_run); rfl; rfl; (intro w M; go_simp; (try go_ints); (try simp only [↓IntWalk.iteOmega]); (try with_reducible rfl)); simp only [Act.put, List.setIfInBounds_toArray, List.set_cons_zero, List.set_cons_succ])
  refine E_nil ?_
  intro w3 K M
  clear K
  refine S_done ?_
  go_wp2_with fail
  refine S_region (by kernel_rfl) ?_
  refine E_stage 0 26 [0, 1, 2, 3, 4, 5, 7, 8, 9, 10, 11, 12, 13, 14, 16, 18, 6, 15, 17, 19, 20, 21, 22, 23, 24, 25] (by kernel_rfl) M.drew ?_
  clear M
  simp only [List.filterMap_cons, List.filterMap_nil, List.getElem?_cons_zero, List.getElem?_cons_succ]
  ((with_reducible apply E_run); rfl; rfl; (intro w M; go_simp; (try go_ints); (try simp only [↓IntWalk.iteOmega]); (try with_reducible rfl)); simp only [Act.put, List.setIfInBounds_toArray, List.set_cons_zero, List.set_cons_succ])
  ((with_reducible apply E_run); rfl; rfl; (intro w M; go_simp; (try go_ints); (try simp only [↓IntWalk.iteOmega]); (try with_reducible rfl)); simp only [Act.put, List.setIfInBounds_toArray, List.set_cons_zero, List.set_cons_succ])
  ((with_reducible apply E_run); rfl; rfl; (intro w M; go_simp; (try go_ints); (try simp only [↓IntWalk.iteOmega]); (try with_reducible rfl)); simp only [Act.put, List.setIfInBounds_toArray, List.set_cons_zero, List.set_cons_succ])
  ((with_reducible apply E_run); rfl; rfl; (intro w M; go_simp; (try go_ints); (try simp only [↓IntWalk.iteOmega]); (try with_reducible rfl)); simp only [Act.put, List.setIfInBounds_toArray, List.set_cons_zero, List.set_cons_succ])
  ((with_reducible apply E_run (v := .agg ((ad 1).map n8).toArray)); rfl; rfl; (intro w M; exact run_loadX (n := 20) (M.kept.row hr (by simp)) rfl Salg.underlying45 rfl size45 hsz HSE.out); simp only [Act.put, List.setIfInBounds_toArray, List.set_cons_zero, List.set_cons_succ])
  ((with_reducible apply E_run); rfl; rfl; (intro w M; go_simp; (try go_ints); (try simp only [↓IntWalk.iteOmega]); (try with_reducible rfl)); simp only [Act.put, List.setIfInBounds_toArray, List.set_cons_zero, List.set_cons_succ])
  ((with_reducible apply E_run); rfl; rfl; (intro w M; go_simp; (try go_ints); (try simp only [↓IntWalk.iteOmega]); (try with_reducible rfl)); simp only [Act.put, List.setIfInBounds_toArray, List.set_cons_zero, List.set_cons_succ])
  ((with_reducible apply E_run); rfl; rfl; (intro w M; go_simp; (try go_ints); (try simp only [↓IntWalk.iteOmega]); (try with_reducible rfl)); simp only [Act.put, List.setIfInBounds_toArray, List.set_cons_zero, List.set_cons_succ])
  ((with_reducible apply E_run); rfl; rfl; (intro w M; go_simp; (try go_ints); (try simp only [↓IntWalk.iteOmega]); (try with_reducible rfl)); simp only [Act.put, List.setIfInBounds_toArray, List.set_cons_zero, List.set_cons_succ])
  ((with_reducible apply E_run); rfl; rfl; (intro w M; go_simp; (try go_ints); (try simp only [↓IntWalk.iteOmega]); (try with_reducible rfl)); simp only [Act.put, List.setIfInBounds_toArray, List.set_cons_zero, List.set_cons_succ])
  ((with_reducible apply E_run); rfl; rfl; (intro w M; go_simp; (try go_ints); (try simp only [↓IntWalk.iteOmega]); (try with_reducible rfl)); simp only [Act.put, List.setIfInBounds_toArray, List.set_cons_zero, List.set_cons_succ])
  ((with_reducible apply E_run); rfl; rfl; (intro w M; go_simp; (try go_ints); (try simp only [↓IntWalk.iteOmega]); (try with_reducible rfl)); simp only [Act.put, List.setIfInBounds_toArray, List.set_cons_zero, List.set_cons_succ])
  ((with_reducible apply E_run (v := .agg ((ad 1).map n8).toArray)); rfl; rfl; (intro w M; exact run_loadX (n := 20) (M.kept.row hr (by simp)) rfl Salg.underlying45 rfl size45 hsz HSE.out); simp only [Act.put, List.setIfInBounds_toArray, List.set_cons_zero, List.set_cons_succ])
  ((with_reducible apply E_run); rfl; rfl; (intro w M; go_simp; (try go_ints); (try simp only [↓IntWalk.iteOmega]); (try with_reducible rfl)); simp only [Act.put, List.setIfInBounds_toArray, List.set_cons_zero, List.set_cons_succ])
  ((with_reducible apply E_run); rfl; rfl; (intro w M; go_simp; (try go_ints); (try simp only [↓IntWalk.iteOmega]); (try with_reducible rfl)); simp only [Act.put, List.setIfInBounds_toArray, List.set_cons_zero, List.set_cons_succ])
  ((with_reducible apply E_run); rfl; rfl; (intro w M; go_simp; (try go_ints); (try simp only [↓IntWalk.iteOmega]); (try with_reducible rfl)); simp only [Act.put, List.setIfInBounds_toArray, List.set_cons_zero, List.set_cons_succ])
  refine E_call rfl Salg.func256 (by kernel_rfl) (by kernel_rfl) (args := [.pointer (some ⟨c, 0, none⟩), A8 (ad 1), kv]) rfl ?_
  intro w1 K M
  clear K
  refine (orig_nil c 119 cs (ad 1) kv _ (M.kept.row hc (by simp)) h8c).mono ?_
  rintro e w4 ⟨rfl, K⟩
  replace M := M.call K
  refine ⟨_, rfl, trivial, M, ?_⟩
  clear K
  simp only [Act.put, List.setIfInBounds_toArray, List.set_cons_zero, List.set_cons_succ]
  refine E_call rfl Salg.func225 (by kernel_rfl) (by kernel_rfl) (args := [.pointer (some ⟨c, 0, none⟩), A8 (ad 1), kv]) rfl ?_
  intro w1 K M
  clear K
  refine (HLD.out _ M.kept).mono ?_
  rintro e w5 ⟨vv, rfl, xHV, K⟩
  have HV := hid xHV
  clear xHV
  replace M := M.call K
  refine ⟨_, rfl, trivial, M, ?_⟩
  clear K
  simp only [Act.put, List.setIfInBounds_toArray, List.set_cons_zero, List.set_cons_succ]
  refine E_call rfl Salg.func116 (by kernel_rfl) (by kernel_rfl) (args := [.pointer (some ⟨fb, q, none⟩), .int .i64 1]) rfl ?_
  intro w1 K M
  replace HV := hid (HV.out.kept K)
  clear K
  refine (HA1.out _ M.kept).mono ?_
  rintro e w6 ⟨rfl, K⟩
  replace HV := hid (HV.out.kept K)
  replace M := M.call K
  refine ⟨_, rfl, trivial, M, ?_⟩
  clear K
  simp only [Act.put, List.setIfInBounds_toArray, List.set_cons_zero, List.set_cons_succ]
  refine E_call rfl Salg.func255 (by kernel_rfl) (by kernel_rfl) (args := [nilS, vv, nv, .bool (!b)]) rfl ?_
  intro w1 K M
  replace HV := hid (HV.out.kept K)
  clear K
  refine (HSS.out _ vv M.kept HV.out).mono ?_
  rintro e w7 ⟨rc, rp, rm, rfl, xHC, xHP, xHM, K⟩
  have HC := hid xHC
  have HP := hid xHP
  have HM := hid xHM
  clear xHC xHP xHM
  replace HV := hid (HV.out.kept K)
  replace M := M.call K
  refine ⟨_, rfl, trivial, M, ?_⟩
  clear K
  simp only [Act.put, List.setIfInBounds_toArray, List.set_cons_zero, List.set_cons_succ]
  ((with_reducible apply E_run); rfl; rfl; (intro w M; go_simp; (try go_ints); (try simp only [↓IntWalk.iteOmega]); (try with_reducible rfl)); simp only [Act.put, List.setIfInBounds_toArray, List.set_cons_zero, List.set_cons_succ])
  ((with_reducible apply E_run); rfl; rfl; (intro w M; go_simp; (try go_ints); (try simp only [↓IntWalk.iteOmega]); (try with_reducible rfl)); simp only [Act.put, List.setIfInBounds_toArray, List.set_cons_zero, List.set_cons_succ])
  ((with_reducible apply E_run); rfl; rfl; (intro w M; go_simp; (try go_ints); (try simp only [↓IntWalk.iteOmega]); (try with_reducible rfl)); simp only [Act.put, List.setIfInBounds_toArray, List.set_cons_zero, List.set_cons_succ])
  ((with_reducible apply E_run); rfl; rfl; (intro w M; go_simp; (try go_ints); (try simp only [↓IntWalk.iteOmega]); (try with_reducible rfl)); simp only [Act.put, List.setIfInBounds_toArray, List.set_cons_zero, List.set_cons_succ])
  ((with_reducible apply E_run); rfl; rfl; (intro w M; go_simp; (try go_ints); (try simp only [↓IntWalk.iteOmega]); (try with_reducible rfl)); simp only [Act.put, List.setIfInBounds_toArray, List.set_cons_zero, List.set_cons_succ])
  ((with_reducible apply E_run); rfl; rfl; (intro w M; go_simp; (try go_ints); (try simp only [↓IntWalk.iteOmega]); (try with_reducible rfl)); simp only [Act.put, List.setIfInBounds_toArray, List.set_cons_zero, List.set_cons_succ])
  refine E_nil ?_
  intro w8 K M
  replace HC := hid (HC.out.kept K)
  replace HP := hid (HP.out.kept K)
  replace HM := hid (HM.out.kept K)
  clear K
  refine S_done ?_
  go_wp2_with fail
  go_ret3
  exact ⟨_, _, _, rfl, HC.out, HP.out, HM.out, M.kept⟩
end Go.Proofs.YgcsalGreat

/-
  The walks of yp.end, yp.maxNat, yp.MemCost, yp.SentGas, yp.addrOf (of 2), (*yp.World).isWarm, (*yp.World).access.
-/
import Derived.Test.YgcsalGreatSl5
import Derived.Test.YgcsalGreatMv34
set_option linter.unusedSimpArgs false
set_option linter.unusedVariables false
namespace Go.Proofs.YgcsalGreat
open Go.RowKit Go.Own

set_option maxHeartbeats 4000000 in
set_option maxRecDepth 100000 in
theorem end_zero (a n : Value) (w : World) (hn : NumV w n 0) : Calls Salg.prog 188 #[a, n] w fun e w' => ∃ r, e = .returned r ∧ NumV w' r 0 ∧ Kept [] w w' := by
  have M := Mem.start w []
  have HN := hid hn
  clear hn
  go_enter Salg.func188, Salg.ntmps188
  go_wp2_with fail
  refine (isZero_lit n 0 true (by decide) _ HN.out).mono ?_
  rintro e w1 ⟨rfl, K⟩
  replace M := M.call K
  clear K
  go_wp2_with fail
  go_ret
  exact ⟨_, rfl, nil_num _, M.kept⟩

set_option maxHeartbeats 4000000 in
set_option maxRecDepth 100000 in
theorem end_some (a n : Value) (A N : Nat) (w : World) (ha : NumV w a A) (hn : NumV w n N) (h0 : N ≠ 0) (hA : A < 256 ^ 200) (hN : N < 256 ^ 200) : Calls Salg.prog 188 #[a, n] w fun e w' => ∃ r, e = .returned r ∧ NumV w' r (A + N) ∧ Kept [] w w' := by
  have M := Mem.start w []
  have HN := hid hn
  have HA := hid ha
  clear hn ha
  go_enter Salg.func188, Salg.ntmps188
  go_wp2_with fail
  refine (isZero_lit n N false (by simp [h0]) _ HN.out).mono ?_
  rintro e w1 ⟨rfl, K⟩
  replace HN := hid (HN.out.kept K)
  replace HA := hid (HA.out.kept K)
  replace M := M.call K
  clear K
  go_wp2_with fail
  refine (add_num a n A N _ HA.out HN.out hA hN).mono ?_
  rintro e w2 ⟨r, rfl, xHR, K⟩
  have HR := hid xHR
  replace M := M.call K
  clear K xHR
  go_wp2_with fail
  go_ret
  exact ⟨_, rfl, HR.out, M.kept⟩

set_option maxHeartbeats 4000000 in
set_option maxRecDepth 100000 in
theorem maxNat_zero (a b : Value) (w : World) (ha : NumV w a 0) (hb : NumV w b 0) : Calls Salg.prog 189 #[a, b] w fun e w' => ∃ r, e = .returned r ∧ NumV w' r 0 ∧ Kept [] w w' := by
  have M := Mem.start w []
  have HA := hid ha
  have HB := hid hb
  clear ha hb
  go_enter Salg.func189, Salg.ntmps189
  go_wp2_with fail
  refine (cmp_lit a b 0 0 0 (by decide) _ HA.out HB.out).mono ?_
  rintro e w1 ⟨rfl, K⟩
  replace HB := hid (HB.out.kept K)
  replace M := M.call K
  clear K
  go_wp2_with fail
  go_ret
  exact ⟨_, rfl, HB.out, M.kept⟩

set_option maxHeartbeats 4000000 in
set_option maxRecDepth 100000 in
theorem memCost_any (v : Value) (m : Nat) (w : World) (hv : NumV w v m) (hm : m ≤ 1000) : Calls Salg.prog 218 #[v] w fun e w' => ∃ r, e = .returned r ∧ NumV w' r (3 * m + m * m / 512) ∧ Kept [] w w' := by
  have M := Mem.start w []
  have HV := hid hv
  clear hv
  have hmm : m * m ≤ 1000 * 1000 := Nat.mul_le_mul hm hm
  go_enter Salg.func218, Salg.ntmps218
  go_wp2_with fail
  refine (num_int _ 3 rfl (by decide) _).mono ?_
  rintro e w1 ⟨a, rfl, xH1, K⟩
  have H1 := hid xH1
  replace HV := hid (HV.out.kept K)
  replace M := M.call K
  clear K xH1
  go_wp2_with fail
  refine (mul_num a v 3 m _ H1.out HV.out (by decide) (by omega)).mono ?_
  rintro e w2 ⟨b, rfl, xH2, K⟩
  have H2 := hid xH2
  replace HV := hid (HV.out.kept K)
  replace M := M.call K
  clear K xH2
  go_wp2_with fail
  refine (mul_num v v m m _ HV.out HV.out (by omega) (by omega)).mono ?_
  rintro e w3 ⟨c, rfl, xH3, K⟩
  have H3 := hid xH3
  replace H2 := hid (H2.out.kept K)
  replace M := M.call K
  clear K xH3
  go_wp2_with fail
  refine (divided_any c (m * m) 512 _ H3.out (by omega) (by decide) (by decide)).mono ?_
  rintro e w4 ⟨d, rfl, xH4, K⟩
  have H4 := hid xH4
  replace H2 := hid (H2.out.kept K)
  replace M := M.call K
  clear K xH4
  go_wp2_with fail
  refine (add_num b d (3 * m) (m * m / 512) _ H2.out H4.out (by omega) (by omega)).mono ?_
  rintro e w5 ⟨r, rfl, xHR, K⟩
  have HR := hid xHR
  replace M := M.call K
  clear K xHR
  go_wp2_with fail
  go_ret
  exact ⟨_, rfl, HR.out, M.kept⟩

set_option maxHeartbeats 4000000 in
set_option maxRecDepth 100000 in
theorem sentGas_any (gv av : Value) (G A : Nat) (w : World) (hg : NumV w gv G) (ha : NumV w av A) (hG : G < 1000000) : Calls Salg.prog 220 #[gv, av] w fun e w' => ∃ r, e = .returned r ∧ NumV w' r (min A (G - G / 64)) ∧ Kept [] w w' := by
  have M := Mem.start w []
  have HG := hid hg
  have HA := hid ha
  clear hg ha
  go_enter Salg.func220, Salg.ntmps220
  go_wp2_with fail
  refine (divided_any gv G 64 _ HG.out (by omega) (by decide) (by decide)).mono ?_
  rintro e w1 ⟨d, rfl, xH1, K⟩
  have H1 := hid xH1
  replace HG := hid (HG.out.kept K)
  replace HA := hid (HA.out.kept K)
  replace M := M.call K
  clear K xH1
  go_wp2_with fail
  refine (less_any gv d G (G / 64) _ HG.out H1.out (by omega) (by omega)).mono ?_
  rintro e w2 ⟨l, rfl, xH2, K⟩
  have H2 := hid xH2
  replace HA := hid (HA.out.kept K)
  replace M := M.call K
  clear K xH2
  go_wp2_with fail
  refine (minNat_any av l A (G - G / 64) _ HA.out H2.out).mono ?_
  rintro e w3 ⟨r, rfl, xHR, K⟩
  have HR := hid xHR
  replace M := M.call K
  clear K xHR
  go_wp2_with fail
  go_ret
  exact ⟨_, rfl, HR.out, M.kept⟩

set_option maxHeartbeats 4000000 in
set_option maxRecDepth 100000 in
theorem addrOf_two (v : Value) (w : World) (hv : NumV w v 2) : Calls Salg.prog 191 #[v] w fun e w' => e = .returned (A8 (ad 2)) ∧ Kept [] w w' := by
  have M := Mem.start w []
  obtain ⟨ds, ⟨p, c, rfl, hc1, hc2, hd, hsm⟩, ht, hval⟩ := hv
  obtain rfl : ds = [2] := tight_inj hsm (by intro x hx; simp at hx; omega) ht (by intro x hx; simp at hx; omega) hval
  obtain ⟨b, t, cs, rfl, hr, hpre⟩ := hd.at (i := 0) (by decide)
  have HG : Hid ((cs.map n8).toArray[0]? = some (n8 2)) := by show _ = _; simp [pre_get hpre (i := 0) (by decide)]
  clear hd hpre hsm ht hval
  simp only [List.length_cons, List.length_nil] at *
  go_enter Salg.func191, Salg.ntmps191
  go_wp2_with (first
    | ((with_reducible apply L_allocA (d := 2) M); exact zero45; clear M; intro t2 w1 ht2 M; simp only [Act.put, List.setIfInBounds_toArray, List.set_cons_zero, List.set_cons_succ])
    | ((with_reducible apply L_allocA (d := 3) M); exact zero45; clear M; intro t3 w2 ht3 M; simp only [Act.put, List.setIfInBounds_toArray, List.set_cons_zero, List.set_cons_succ]))
  go_loopw [4] (fun iv wr => (iv = .int .i64 0 ∧ Mem w [] [(t3, R8 45 (List.replicate 20 0)), (t2, R8 45 (List.replicate 20 0))] wr) ∨ (iv = .int .i64 1 ∧ Mem w [] [(t3, R8 45 (ad 2)), (t2, R8 45 (List.replicate 20 0))] wr)) (fun iv _ => (1 - intOf iv).toNat)
  case atStart => exact .inl ⟨rfl, M⟩
  case round =>
    clear M
    rcases hrel with ⟨rfl, M⟩ | ⟨rfl, M⟩
    · go_wp2_with (first
        | ((with_reducible apply W_loadCell); rfl; exact M.kept.row hr (by simp); exact HG.out; exact Salg.underlying5; rfl; simp only [Act.put, List.setIfInBounds_toArray, List.set_cons_zero, List.set_cons_succ])
        | ((with_reducible apply W_st8_0 (o := 19) (m := 2)); rfl; rfl; rfl; exact M; exact Or.inr ht3; exact size5; decide; clear M; intro w5 M))
      go_roundw
      case rel => exact .inr ⟨by go_num, M⟩
      case measure => decide
    · go_wp2_with (first
        | ((with_reducible apply W_loadAll); rfl; exact M.r0; exact Salg.underlying45; rfl; exact size45; simp only [Act.put, List.setIfInBounds_toArray, List.set_cons_zero, List.set_cons_succ])
        | ((with_reducible apply W_storeK (b := t2) (vs := ((ad 2).map n8).toArray)); rfl; rfl; exact M.r1; exact size45; rfl; exact oneL rfl; intro w6 K hr3; replace M := Mem.callPut (L1 := [(t3, _)]) M (Or.inr ht2) K hr3; clear K hr3; simp only [List.cons_append, List.nil_append] at M))
      exact ret_cell1 Salg.results191 rfl M.r1 Salg.underlying45 rfl size45 rfl ⟨rfl, M.kept⟩

set_option maxHeartbeats 4000000 in
set_option maxRecDepth 100000 in
theorem isWarm_lit (c tc : Nat) (cs : Array Value) (wa : Value) (l : List (List Nat)) (a : List Nat) (b : Bool) (w : World) (hc : w.heap[c]? = some (.cells cs tc (0, 0))) (h1 : cs[1]? = some wa) (hv : AdsV w wa l) (ha : AdOk a) (hb : decide (a ∈ l) = b) : Calls Salg.prog 254 #[.pointer (some ⟨c, 0, none⟩), A8 a] w fun e w' => e = .returned (.bool b) ∧ Kept [] w w' := by
  have M := Mem.start w []
  have HA := hid hv
  have HO := hid ha
  have HL : Hid (a.length = 20) := ha.ha
  subst hb
  clear hv ha
  go_enter Salg.func254, Salg.ntmps254
  go_wp2_with ((with_reducible apply L_box M); rfl; clear M; intro t3 w1 ht3 M; simp only [Act.put, List.setIfInBounds_toArray, List.set_cons_zero, List.set_cons_succ])
  refine S_region (by kernel_rfl) ?_
  refine E_stage 0 7 [0, 1, 2, 3, 4, 5, 6] (by kernel_rfl) M.drew ?_
  clear M
  simp only [List.filterMap_cons, List.filterMap_nil, List.getElem?_cons_zero, List.getElem?_cons_succ]
  ((with_reducible apply E_run); rfl; rfl; (intro w M; go_simp; (try go_ints); (try simp only [↓IntWalk.iteOmega]); (try with_reducible rfl)); simp only [Act.put, List.setIfInBounds_toArray, List.set_cons_zero, List.set_cons_succ])
  ((with_reducible apply E_run); rfl; rfl; (intro w M; go_simp; (try go_ints); (try simp only [↓IntWalk.iteOmega]); (try with_reducible rfl)); simp only [Act.put, List.setIfInBounds_toArray, List.set_cons_zero, List.set_cons_succ])
  ((with_reducible apply E_run); rfl; rfl; (intro w M; go_simp; (try go_ints); (try simp only [↓IntWalk.iteOmega]); (try with_reducible rfl)); simp only [Act.put, List.setIfInBounds_toArray, List.set_cons_zero, List.set_cons_succ])
  ((with_reducible apply E_run); rfl; rfl; (intro w M; exact run_loadCell (M.kept.row hc (by simp)) rfl h1 Salg.underlying109 rfl); simp only [Act.put, List.setIfInBounds_toArray, List.set_cons_zero, List.set_cons_succ])
  ((with_reducible apply E_run); rfl; rfl; (intro w M; exact run_loadAll M.r0 rfl Salg.underlying45 rfl (by rw [size45]; simp [HL.out])); simp only [Act.put, List.setIfInBounds_toArray, List.set_cons_zero, List.set_cons_succ])
  refine E_call rfl Salg.func192 (by kernel_rfl) (by kernel_rfl) (args := [wa, A8 a]) rfl ?_
  intro w1 K M
  clear K
  refine (listed_any wa l a _ (HA.out.kept M.kept) HO.out).mono ?_
  rintro e w2 ⟨rfl, K⟩
  replace M := M.call K
  refine ⟨_, rfl, trivial, M, ?_⟩
  clear K
  simp only [Act.put, List.setIfInBounds_toArray, List.set_cons_zero, List.set_cons_succ]
  ((with_reducible apply E_run); rfl; rfl; (intro w M; go_simp; (try go_ints); (try simp only [↓IntWalk.iteOmega]); (try with_reducible rfl)); simp only [Act.put, List.setIfInBounds_toArray, List.set_cons_zero, List.set_cons_succ])
  refine E_nil ?_
  intro w3 K M
  clear K
  refine S_done ?_
  go_wp2_with fail
  go_ret
  exact ⟨rfl, M.kept⟩

set_option maxHeartbeats 4000000 in
set_option maxRecDepth 100000 in
theorem access_true (c tc : Nat) (cs : Array Value) (wa : Value) (l : List (List Nat)) (a : List Nat) (w : World) (hc : w.heap[c]? = some (.cells cs tc (0, 0))) (h1 : cs[1]? = some wa) (hv : AdsV w wa l) (ha : AdOk a) (hb : decide (a ∈ l) = true) : Calls Salg.prog 242 #[.pointer (some ⟨c, 0, none⟩), A8 a] w fun e w' => ∃ r, e = .returned r ∧ NumV w' r 100 ∧ Kept [] w w' := by
  have M := Mem.start w []
  have HW := hid (fun w' (K : Kept [] w w') => isWarm_lit c tc cs wa l a true w' (K.row hc (by simp)) h1 (hv.kept K) ha hb)
  have HL : Hid (a.length = 20) := ha.ha
  clear hv ha hb
  go_enter Salg.func242, Salg.ntmps242
  go_wp2_with (first
    | ((with_reducible apply L_box M); rfl; clear M; intro t3 w1 ht3 M; simp only [Act.put, List.setIfInBounds_toArray, List.set_cons_zero, List.set_cons_succ])
    | ((with_reducible apply W_loadAll); rfl; exact M.r0; exact Salg.underlying45; rfl; (rw [size45]; simp [HL.out]); simp only [Act.put, List.setIfInBounds_toArray, List.set_cons_zero, List.set_cons_succ]))
  refine (HW.out _ M.kept).mono ?_
  rintro e w2 ⟨rfl, K⟩
  replace M := M.call K
  clear K
  go_wp2_with fail
  refine (num_int _ 100 rfl (by decide) _).mono ?_
  rintro e w3 ⟨r, rfl, xHR, K⟩
  have HR := hid xHR
  replace M := M.call K
  clear K xHR
  go_wp2_with fail
  go_ret
  exact ⟨_, rfl, HR.out, M.kept⟩

set_option maxHeartbeats 4000000 in
set_option maxRecDepth 100000 in
theorem access_false (c tc : Nat) (cs : Array Value) (wa : Value) (l : List (List Nat)) (a : List Nat) (w : World) (hc : w.heap[c]? = some (.cells cs tc (0, 0))) (h1 : cs[1]? = some wa) (hv : AdsV w wa l) (ha : AdOk a) (hb : decide (a ∈ l) = false) : Calls Salg.prog 242 #[.pointer (some ⟨c, 0, none⟩), A8 a] w fun e w' => ∃ r, e = .returned r ∧ NumV w' r 2600 ∧ Kept [] w w' := by
  have M := Mem.start w []
  have HW := hid (fun w' (K : Kept [] w w') => isWarm_lit c tc cs wa l a false w' (K.row hc (by simp)) h1 (hv.kept K) ha hb)
  have HL : Hid (a.length = 20) := ha.ha
  clear hv ha hb
  go_enter Salg.func242, Salg.ntmps242
  go_wp2_with (first
    | ((with_reducible apply L_box M); rfl; clear M; intro t3 w1 ht3 M; simp only [Act.put, List.setIfInBounds_toArray, List.set_cons_zero, List.set_cons_succ])
    | ((with_reducible apply W_loadAll); rfl; exact M.r0; exact Salg.underlying45; rfl; (rw [size45]; simp [HL.out]); simp only [Act.put, List.setIfInBounds_toArray, List.set_cons_zero, List.set_cons_succ]))
  refine (HW.out _ M.kept).mono ?_
  rintro e w2 ⟨rfl, K⟩
  replace M := M.call K
  clear K
  go_wp2_with fail
  refine (num_int _ 2600 rfl (by decide) _).mono ?_
  rintro e w3 ⟨r, rfl, xHR, K⟩
  have HR := hid xHR
  replace M := M.call K
  clear K xHR
  go_wp2_with fail
  go_ret
  exact ⟨_, rfl, HR.out, M.kept⟩
end Go.Proofs.YgcsalGreat

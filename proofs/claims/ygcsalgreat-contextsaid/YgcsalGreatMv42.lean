/-
  The walk of law.Moves.
-/
import Derived.Test.YgcsalGreatMv33
import Derived.Test.YgcsalGreatMv35
import Derived.Test.YgcsalGreatMv38
import Derived.Test.YgcsalGreatMv39
import Derived.Test.YgcsalGreatMv40
import Derived.Test.YgcsalGreatMv41
set_option linter.unusedSimpArgs false
set_option linter.unusedVariables false
namespace Go.Own
theorem Mem.callNew {w0 w w' : World} {X : List Nat} {L : List (Nat × Obj)} {c : Nat} {o o' : Obj} (M : Mem w0 X L w) (K : Kept [c] w w') (hc : w0.heap.size ≤ c) (hr : w.heap[c]? = some o) (hr' : w'.heap[c]? = some o') (hn : ∀ p ∈ L, c ≠ p.1) : Mem w0 X L w' :=
  (Mem.callPut (L1 := []) (M.add hr hn) (Or.inr hc) K hr').tail
theorem ne2 {c x y : Nat} {o1 o2 : Obj} (h1 : c ≠ x) (h2 : c ≠ y) : ∀ p ∈ [(x, o1), (y, o2)], c ≠ p.1 := by
  intro p hp
  simp at hp
  rcases hp with rfl | rfl
  · exact h1
  · exact h2
theorem row_ty {w : World} {b c : Nat} {cs cs' : Array Value} {t t' : TypeId} (h : w.heap[b]? = some (.cells cs t (0, 0))) (h' : w.heap[c]? = some (.cells cs' t' (0, 0))) (ht : t ≠ t') : b ≠ c := by
  rintro rfl
  rw [h] at h'
  cases h'
  exact ht rfl
end Go.Own
namespace Go.Proofs.YgcsalGreat
open Go.RowKit Go.Own
theorem zero40s : ((Salg.prog.info? 40).bind (·.zero)).isSome = true := by kernel_rfl

set_option maxHeartbeats 4000000 in
set_option maxRecDepth 100000 in
theorem moves_gen (kind n cut : Nat) (fl im tl ms : List Nat) (wl : List (List Nat)) (o t g i k : Nat) (w : World) (hfl : fl.length = 136) (him : im.length = 32)
    (hprog : ∀ w, Calls Salg.prog 15 #[n8 kind, n8 n, n8 cut, .agg (fl.map n8).toArray, A8 im] w fun e w' => ∃ v, e = .returned v ∧ RowV w' 5 v ((pushB fl 17 ++ tl).map n8) ∧ Kept [] w w')
    (hk : OpK o t g i k) (hpl : ∀ fb cur cu2, cur[10]? = some cu2 → PlainK fb cur o 153 i (nsAt fl 17) ms cu2 (pushB fl 17 ++ tl)) (ho : tl[0]? = some o) (ht : t ≤ 17) (hms : ms = wl.map be) (hok : ∀ p ∈ wl, p.length = 32 ∧ Small p) (hw0 : 0 < wl.length) (hwl : wl.length ≤ 40) (hsm : Small (pushB fl 17 ++ tl)) (hl : (pushB fl 17 ++ tl).length ≤ 256)
    (hhold : ∀ sv w, WsV w sv wl → Calls Salg.prog 19 #[n8 kind, n8 n, n8 cut, .agg (fl.map n8).toArray, A8 im, .agg (vwL (153 + (1 + i)) (178949 - k) sv).toArray] w fun e w' => e = .returned (.bool true) ∧ Kept [] w w') :
    Calls Salg.prog 4 #[n8 kind, n8 n, n8 cut, .agg (fl.map n8).toArray, A8 im] w fun e w' => e = .returned (.bool true) ∧ Kept [] w w' := by
  have M := Mem.start w []
  have hi := hk.hi
  have hds : pushB fl 17 ++ tl ≠ [] := by
    intro h
    have := congrArg List.length h
    rw [List.length_append, pushB_len hfl (Nat.le_refl _)] at this
    simp at this
  have hdp : 0 < (pushB fl 17 ++ tl).length := List.length_pos_iff.2 hds
  have HFL := hid hfl
  have HIM := hid him
  have HPR := hid hprog
  have HST := hid (fun b cv w' h1 h2 => stage_one b cv (pushB fl 17 ++ tl) w' h1 h2 hdp hl hsm)
  have HSP := hid (fun v u w' h1 h2 => specOf_two v u (pushB fl 17 ++ tl) w' h1 h2 hds)
  have HRU := hid (fun c fb cap cs cur gv vv cu2 iu a0 a1 a3 w' h1 h2 h3 h4 h5 h6 h7 h8 => run_any c fb cap cs cur gv vv cu2 iu a0 a1 a3 fl tl ms o t g i k w' h1 h2 h3 h4 h5 h6 h7 hfl (by omega) ho hk (hpl fb cur cu2 h8) ht)
  have HVW := hid (fun c fb cap cs cur gv vv cu2 iu a0 a1 a3 w' h1 h2 h3 h4 h5 h6 h7 h8 => view_any c fb (153 + (1 + i)) (178949 - k) cap cs cur ms wl gv vv cu2 iu a0 a1 a3 w' h1 h2 h3 h4 h5 h6 h7 h8 (by omega) (by omega) hms hok hw0 hwl)
  have HHO := hid hhold
  clear hprog hk hpl ho ht hms hok hw0 hwl hsm hl hhold hds hdp hfl him
  generalize pushB fl 17 ++ tl = ds at *
  go_enter Salg.func4, Salg.ntmps4
  go_wp2_with (first
    | ((with_reducible apply L_box (d := 8) M); rfl; clear M; intro t8 w1 ht8 M; simp only [Act.put, List.setIfInBounds_toArray, List.set_cons_zero, List.set_cons_succ])
    | ((with_reducible apply L_box (d := 9) M); rfl; clear M; intro t9 w2 ht9 M; simp only [Act.put, List.setIfInBounds_toArray, List.set_cons_zero, List.set_cons_succ])
    | ((with_reducible apply W_loadAll); rfl; exact M.r1; exact Salg.underlying34; rfl; (rw [size34]; simp [HFL.out]); simp only [Act.put, List.setIfInBounds_toArray, List.set_cons_zero, List.set_cons_succ])
    | ((with_reducible apply W_loadAll); rfl; exact M.r0; exact Salg.underlying22; rfl; (rw [size22]; simp [HIM.out]); simp only [Act.put, List.setIfInBounds_toArray, List.set_cons_zero, List.set_cons_succ]))
  refine (HPR.out _).mono ?_
  rintro e w3 ⟨pv, rfl, xHPV, K⟩
  have HPV := hid xHPV
  replace M := M.call K
  clear K xHPV
  have HP1 := hid HPV.out.one
  go_wp2_with ((with_reducible apply W_buildIt (u := pv) (vs := #[pv]) (s := 1) M); rfl; exact one_cells HP1.out; exact Salg.underlying42; exact size40; exact zero40s; rfl; decide; decide; clear M; intro bn w4 hbn hbn2 KB M; replace HPV := hid (HPV.out.kept KB); clear KB hbn2; simp only [Act.put, List.setIfInBounds_toArray, List.set_cons_zero, List.set_cons_succ])
  have hw4 := M.kept.size
  refine (HST.out bn pv _ M.r0 HPV.out).mono ?_
  rintro e w5 ⟨sw, su, rfl, xO, xN, K⟩
  have HOA := hid xO
  have HSU := hid xN
  replace M := (M.call K).tail
  clear K xO xN
  go_wp2_with fail
  refine (HSP.out sw su _ HOA.out HSU.out).mono ?_
  rintro e w6 ⟨c, va, tv, nv, bv, cu, nv2, bv2, rfl, xc, xa, x1, x2, x3, x4, x5, x6, xs, K⟩
  have HRC := hid xc
  have HAC := hid xa
  have HNV := hid x1
  have HBV := hid x2
  have HCU := hid x3
  have HN2 := hid x4
  have HB2 := hid x5
  have hcw : w.heap.size ≤ c := Nat.le_trans M.kept.size xs
  replace M := M.call K
  clear K xc xa x1 x2 x3 x4 x5 x6 xs
  go_wp2_with fail
  refine (toA1_any _).mono ?_
  rintro e w7 ⟨rfl, K⟩
  replace HRC := hid (K.row HRC.out (by simp))
  replace HAC := hid (HAC.out.kept K)
  replace HNV := hid (HNV.out.kept K)
  replace HBV := hid (HBV.out.kept K)
  replace HCU := hid (HCU.out.kept K)
  replace HN2 := hid (HN2.out.kept K)
  replace HB2 := hid (HB2.out.kept K)
  replace M := M.call K
  clear K
  go_wp2_with fail
  refine (begin_ok c va tv nv bv cu nv2 bv2 ds _ HRC.out HAC.out HNV.out HBV.out HCU.out HN2.out HB2.out).mono ?_
  rintro e w8 ⟨fb, cap, cs, cur, gv, vv, cu2, iu, a0, a1, a3, rfl, xc, k3, k4, k9, k10, k11, xf, xcur, xg, xcu, hfb, K⟩
  have HCUR := hid xcur
  have HG := hid xg
  have HC2 := hid xcu
  have HF := hid xf
  have hfw : w.heap.size ≤ fb := Nat.le_trans M.kept.size hfb
  have hc9 : c ≠ t9 := row_ty HRC.out M.r0 (by decide)
  have hc8 : c ≠ t8 := row_ty HRC.out M.r1 (by decide)
  replace M := M.callNew K hcw HRC.out xc (ne2 hc9 hc8)
  replace HRC := hid xc
  have h10 : cur[10]? = some cu2 := (HCUR.out 10 (by decide)).trans (by kernel_rfl)
  clear K xc xf xcur xg xcu hfb HAC HNV HBV HCU HN2 HB2 HOA HSU HPV HP1
  have HK3 := hid k3
  have HK4 := hid k4
  have HK9 := hid k9
  have HK10 := hid k10
  have HK11 := hid k11
  have H10 := hid h10
  clear k3 k4 k9 k10 k11 h10
  go_wp2_with fail
  refine (HRU.out c fb cap cs cur gv vv cu2 iu a0 a1 a3 _ HRC.out HK9.out HK11.out HF.out HCUR.out HG.out HC2.out H10.out).mono ?_
  rintro e w9 ⟨rr, rfl, xF, K⟩
  have HFV := hid xF
  have hf9 : fb ≠ t9 := row_ty HF.out M.r0 (by decide)
  have hf8 : fb ≠ t8 := row_ty HF.out M.r1 (by decide)
  have hcf : c ≠ fb := row_ne' HRC.out HF.out
  obtain ⟨fs, hfs⟩ : ∃ fs, w9.heap[fb]? = some (.cells fs 142 (0, 0)) := by
    obtain ⟨fs, _, _, _, _, h, _⟩ := xF
    exact ⟨fs, h⟩
  replace HRC := hid (K.row HRC.out (by simpa using hcf))
  replace M := M.callNew K hfw HF.out hfs (ne2 hf9 hf8)
  clear K xF hfs HF HG HC2
  go_wp2_with fail
  refine S_region (by kernel_rfl) ?_
  replace HFV := hid (HFV.out.kept (Kept.refl [] _).drew)
  replace HRC := hid ((Kept.refl [] _).drew.row HRC.out (by simp))
  refine E_stage 0 9 [0, 1, 2, 3, 4, 5, 6, 7, 8] (by kernel_rfl) M.drew ?_
  clear M
  simp only [List.filterMap_cons, List.filterMap_nil, List.getElem?_cons_zero, List.getElem?_cons_succ]
  ((with_reducible apply E_run); rfl; rfl; (intro w M; go_simp; (try go_ints); (try simp only [↓IntWalk.iteOmega]); (try with_reducible rfl)); simp only [Act.put, List.setIfInBounds_toArray, List.set_cons_zero, List.set_cons_succ])
  ((with_reducible apply E_run); rfl; rfl; (intro w M; go_simp; (try go_ints); (try simp only [↓IntWalk.iteOmega]); (try with_reducible rfl)); simp only [Act.put, List.setIfInBounds_toArray, List.set_cons_zero, List.set_cons_succ])
  ((with_reducible apply E_run); rfl; rfl; (intro w M; go_simp; (try go_ints); (try simp only [↓IntWalk.iteOmega]); (try with_reducible rfl)); simp only [Act.put, List.setIfInBounds_toArray, List.set_cons_zero, List.set_cons_succ])
  ((with_reducible apply E_run); rfl; rfl; (intro w M; exact run_loadAll M.r1 rfl Salg.underlying34 rfl (by rw [size34]; simp [HFL.out])); simp only [Act.put, List.setIfInBounds_toArray, List.set_cons_zero, List.set_cons_succ])
  ((with_reducible apply E_run); rfl; rfl; (intro w M; exact run_loadAll M.r0 rfl Salg.underlying22 rfl (by rw [size22]; simp [HIM.out])); simp only [Act.put, List.setIfInBounds_toArray, List.set_cons_zero, List.set_cons_succ])
  ((with_reducible apply E_run); rfl; rfl; (intro w M; go_simp; (try go_ints); (try simp only [↓IntWalk.iteOmega]); (try with_reducible rfl)); simp only [Act.put, List.setIfInBounds_toArray, List.set_cons_zero, List.set_cons_succ])
  refine E_call rfl Salg.func20 (by kernel_rfl) (by kernel_rfl) (args := [.pointer (some ⟨c, 0, none⟩)]) rfl ?_
  intro w10 K M
  replace HFV := hid (HFV.out.kept K)
  replace HRC := hid (K.row HRC.out (by simp))
  clear K
  refine (HVW.out c fb cap cs cur gv vv cu2 iu a0 a1 a3 _ HRC.out HK3.out HK4.out HK9.out HK10.out HK11.out HFV.out HCUR.out).mono ?_
  rintro e w11 ⟨sv, rfl, xW, K⟩
  have HWS := hid xW
  replace M := M.call K
  refine ⟨_, rfl, trivial, M, ?_⟩
  clear K xW
  simp only [Act.put, List.setIfInBounds_toArray, List.set_cons_zero, List.set_cons_succ]
  refine E_call rfl Salg.func19 (by kernel_rfl) (by kernel_rfl) (args := [n8 kind, n8 n, n8 cut, .agg (fl.map n8).toArray, A8 im, .agg (vwL (153 + (1 + i)) (178949 - k) sv).toArray]) rfl ?_
  intro w1 K M
  replace HWS := hid (HWS.out.kept K)
  clear K
  refine (HHO.out sv _ HWS.out).mono ?_
  rintro e w12 ⟨rfl, K⟩
  replace HWS := hid (HWS.out.kept K)
  replace M := M.call K
  refine ⟨_, rfl, trivial, M, ?_⟩
  clear K
  simp only [Act.put, List.setIfInBounds_toArray, List.set_cons_zero, List.set_cons_succ]
  ((with_reducible apply E_run); rfl; rfl; (intro w M; go_simp; (try go_ints); (try simp only [↓IntWalk.iteOmega]); (try with_reducible rfl)); simp only [Act.put, List.setIfInBounds_toArray, List.set_cons_zero, List.set_cons_succ])
  refine E_nil ?_
  intro w13 K M
  clear K
  refine S_done ?_
  go_wp2_with fail
  go_ret
  exact ⟨rfl, M.kept⟩
theorem want_ok {fl : List Nat} (hfl : fl.length = 136) (hfs : Small fl) : ∀ p ∈ wantP fl 17, p.length = 32 ∧ Small p := fun p hp => ⟨wantP_ok hfl (Nat.le_refl _) p hp, wantP_small hfs 17 p hp⟩
theorem want_snoc_ok {fl u : List Nat} (hfl : fl.length = 136) (hfs : Small fl) (hu : u.length = 32) (hus : Small u) : ∀ p ∈ wantP fl 17 ++ [u], p.length = 32 ∧ Small p := by
  intro p hp
  rcases List.mem_append.1 hp with h | h
  · exact want_ok hfl hfs p h
  · simp at h
    subst h
    exact ⟨hu, hus⟩
theorem prog_len {fl tl : List Nat} (hfl : fl.length = 136) : (pushB fl 17 ++ tl).length = 153 + tl.length := by rw [List.length_append, pushB_len hfl (Nat.le_refl _)]
theorem vw_0 (m G : Nat) (sv : Value) : (vwL m G sv).toArray[0]? = some (.bool false) := by kernel_rfl
theorem vw_3 (m G : Nat) (sv : Value) : (vwL m G sv).toArray[3]? = some (.int .u16 (m : Int)) := by kernel_rfl
theorem moves_2 (kind n cut : Nat) (fl im : List Nat) (w : World) (hk2 : kind < 256) (hn : n < 256) (hcu : cut < 256) (hfl : fl.length = 136) (hfs : Small fl) (him : im.length = 32) (hims : Small im) (hk : kind % 4 = 2) : Calls Salg.prog 4 #[n8 kind, n8 n, n8 cut, .agg (fl.map n8).toArray, A8 im] w fun e w' => e = .returned (.bool true) ∧ Kept [] w w' := by
  have htb : tailB kind n cut im = [80] := by simp [tailB, hk]
  refine moves_gen kind n cut fl im [80] ((nsAt fl 17).take 16) ((wantP fl 17).take 16) 80 1 0 0 2 w hfl him ?_ opk_pop ?_ rfl (by decide) ?_ ?_ ?_ ?_ ?_ ?_ ?_
  · intro w
    have := movesProgram_2 kind n cut fl im w hk hk2 hn hcu hfl him
    rw [htb] at this
    exact this
  · intro fb cur cu2 h10
    have := plainK_pop fb 153 cur cu2 (pushB fl 17 ++ [80]) (nsAt fl 17) h10 (by rw [nsAt_len]; decide) (by rw [nsAt_len]; decide) (by decide) (by rw [prog_len hfl]; decide)
    rw [nsAt_len] at this
    exact this
  · rw [nsAt_want, List.map_take]
  · intro p hp
    exact want_ok hfl hfs p (List.mem_of_mem_take hp)
  · rw [List.length_take, wantP_len (Nat.le_refl _)]; decide
  · rw [List.length_take, wantP_len (Nat.le_refl _)]; decide
  · intro x hx
    rcases List.mem_append.1 hx with h1 | h1
    · exact pushB_small hfs 17 x h1
    · simp at h1
      omega
  · rw [prog_len hfl]; decide
  · intro sv w hw
    exact movesHolds_2 kind n cut fl im sv _ w hk hk2 hn hcu hfl hfs him hims (vw_0 _ _ _) (vw_3 _ _ _) (vwL_46 _ _ _) hw
theorem moves_0 (kind n cut : Nat) (fl im : List Nat) (w : World) (hk2 : kind < 256) (hn : n < 256) (hcu : cut < 256) (hfl : fl.length = 136) (hfs : Small fl) (him : im.length = 32) (hims : Small im) (hk : kind % 4 = 0) : Calls Salg.prog 4 #[n8 kind, n8 n, n8 cut, .agg (fl.map n8).toArray, A8 im] w fun e w' => e = .returned (.bool true) ∧ Kept [] w w' := by
  have htb : tailB kind n cut im = [128 + n % 16] := by simp [tailB, hk]
  have hu : (w8L (wsI fl (16 - n % 16))).length = 32 := w8L_len (wsI_len hfl (by omega))
  have hop := opk_dup (128 + n % 16) (by omega) (by omega)
  refine moves_gen kind n cut fl im [128 + n % 16] (nsAt fl 17 ++ [be (wsI fl (16 - n % 16))]) (wantP fl 17 ++ [w8L (wsI fl (16 - n % 16))]) (128 + n % 16) _ _ 0 3 w hfl him ?_ hop ?_ rfl (by omega) ?_ ?_ ?_ ?_ ?_ ?_ ?_
  · intro w
    have := movesProgram_0 kind n cut fl im w hk hk2 hn hcu hfl him
    rw [htb] at this
    exact this
  · intro fb cur cu2 h10
    refine plainK_dup fb 153 (128 + n % 16) _ _ (be (wsI fl (16 - n % 16))) cur cu2 (pushB fl 17 ++ [128 + n % 16]) (nsAt fl 17) hop (by omega) (by omega) (by omega) ?_ h10 (by rw [nsAt_len]; decide) (by rw [nsAt_len]; omega) (by decide) (by rw [prog_len hfl]; simp)
    rw [nsAt_len, show 17 - (128 + n % 16 - 127) = 16 - n % 16 by omega, nsAt, List.getElem?_map, List.getElem?_range (by omega)]
    rfl
  · rw [nsAt_want, List.map_append]
    congr 1
  · exact want_snoc_ok hfl hfs hu (want_small hfs _)
  · rw [List.length_append, wantP_len (Nat.le_refl _)]; simp
  · rw [List.length_append, wantP_len (Nat.le_refl _)]; simp
  · intro x hx
    rcases List.mem_append.1 hx with h1 | h1
    · exact pushB_small hfs 17 x h1
    · simp at h1
      omega
  · rw [prog_len hfl]; simp
  · intro sv w hw
    exact movesHolds_0 kind n cut fl im sv _ w hk hk2 hn hcu hfl hfs him hims (vw_0 _ _ _) (vw_3 _ _ _) (vwL_46 _ _ _) hw
theorem moves_1 (kind n cut : Nat) (fl im : List Nat) (w : World) (hk2 : kind < 256) (hn : n < 256) (hcu : cut < 256) (hfl : fl.length = 136) (hfs : Small fl) (him : im.length = 32) (hims : Small im) (hk : kind % 4 = 1) : Calls Salg.prog 4 #[n8 kind, n8 n, n8 cut, .agg (fl.map n8).toArray, A8 im] w fun e w' => e = .returned (.bool true) ∧ Kept [] w w' := by
  have htb : tailB kind n cut im = [144 + n % 16] := by simp [tailB, hk]
  have hop := opk_swap (144 + n % 16) (by omega) (by omega)
  have ht : 144 + n % 16 - 142 = n % 16 + 2 := by omega
  have hsw := swap_want (fun j => w8L (wsI fl j)) (n % 16) (by omega)
  rw [← want_range] at hsw
  refine moves_gen kind n cut fl im [144 + n % 16] (swapL (nsAt fl 17) (144 + n % 16 - 142)) (((wantP fl 17).set 16 (w8L (wsI fl (15 - n % 16)))).set (15 - n % 16) (w8L (wsI fl 16))) (144 + n % 16) _ _ 0 3 w hfl him ?_ hop ?_ rfl (by omega) ?_ ?_ ?_ ?_ ?_ ?_ ?_
  · intro w
    have := movesProgram_1 kind n cut fl im w hk hk2 hn hcu hfl him
    rw [htb] at this
    exact this
  · intro fb cur cu2 h10
    exact plainK_swap fb 153 (144 + n % 16) _ _ cur cu2 (pushB fl 17 ++ [144 + n % 16]) (nsAt fl 17) hop (by omega) (by omega) (by omega) h10 (by rw [nsAt_len]; decide) (by rw [nsAt_len]; omega) (by decide) (by rw [prog_len hfl]; simp)
  · rw [nsAt_want, swap_map, ht, hsw]
  · intro p hp
    rcases List.mem_or_eq_of_mem_set hp with h1 | rfl
    · rcases List.mem_or_eq_of_mem_set h1 with h2 | rfl
      · exact want_ok hfl hfs p h2
      · exact ⟨w8L_len (wsI_len hfl (by omega)), want_small hfs _⟩
    · exact ⟨w8L_len (wsI_len hfl (by omega)), want_small hfs _⟩
  · rw [List.length_set, List.length_set, wantP_len (Nat.le_refl _)]; decide
  · rw [List.length_set, List.length_set, wantP_len (Nat.le_refl _)]; decide
  · intro x hx
    rcases List.mem_append.1 hx with h1 | h1
    · exact pushB_small hfs 17 x h1
    · simp at h1
      omega
  · rw [prog_len hfl]; simp
  · intro sv w hw
    exact movesHolds_1 kind n cut fl im sv _ w hk hk2 hn hcu hfl hfs him hims (vw_0 _ _ _) (vw_3 _ _ _) (vwL_46 _ _ _) hw
theorem imm_be {fl im : List Nat} (hfl : fl.length = 136) (him : im.length = 32) (o j cut : Nat) (hj : j ≤ 32) : be (cutB (pushB fl 17 ++ (o :: im.take (min j cut))) (153 + 1) j) = be (immL j (min j cut) im) := by
  have e : (pushB fl 17 ++ (o :: im.take (min j cut))).drop (153 + 1) = im.take (min j cut) := by
    rw [List.drop_append, List.drop_of_length_le (by rw [pushB_len hfl (Nat.le_refl _)]; decide), List.nil_append, pushB_len hfl (Nat.le_refl _)]
    rfl
  have hl : (pushB fl 17 ++ (o :: im.take (min j cut))).length - (153 + 1) = min j cut := by
    rw [prog_len hfl, List.length_cons, List.length_take, him]
    omega
  rw [cutB, e, hl, List.take_of_length_le (by rw [List.length_take]; omega), immL, be_lead]
theorem moves_3 (kind n cut : Nat) (fl im : List Nat) (w : World) (hk2 : kind < 256) (hn : n < 256) (hcu : cut < 256) (hfl : fl.length = 136) (hfs : Small fl) (him : im.length = 32) (hims : Small im) (hk : kind % 4 = 3) : Calls Salg.prog 4 #[n8 kind, n8 n, n8 cut, .agg (fl.map n8).toArray, A8 im] w fun e w' => e = .returned (.bool true) ∧ Kept [] w w' := by
  have htb : tailB kind n cut im = (95 + n % 33) :: im.take (min (n % 33) cut) := by simp [tailB, hk]
  have hlt : ((95 + n % 33) :: im.take (min (n % 33) cut)).length ≤ 33 := by rw [List.length_cons, List.length_take, him]; omega
  obtain ⟨k, hop⟩ : ∃ k, OpK (95 + n % 33) 0 1 (n % 33) k := by
    rcases Nat.eq_zero_or_pos (n % 33) with h0 | h0
    · rw [h0]; exact ⟨2, opk_push0⟩
    · refine ⟨3, ?_⟩
      have := opk_push (95 + n % 33) (by omega) (by omega)
      rw [show 95 + n % 33 - 95 = n % 33 by omega] at this
      exact this
  refine moves_gen kind n cut fl im ((95 + n % 33) :: im.take (min (n % 33) cut)) (nsAt fl 17 ++ [be (cutB (pushB fl 17 ++ ((95 + n % 33) :: im.take (min (n % 33) cut))) (153 + 1) (n % 33))]) (wantP fl 17 ++ [immL (n % 33) (min (n % 33) cut) im]) (95 + n % 33) 0 1 (n % 33) k w hfl him ?_ hop ?_ rfl (by decide) ?_ ?_ ?_ ?_ ?_ ?_ ?_
  · intro w
    have := movesProgram_3 kind n cut fl im w hk hk2 hn hcu hfl him
    rw [htb] at this
    exact this
  · intro fb cur cu2 h10
    exact plainK_push fb 153 (95 + n % 33) (n % 33) k cur cu2 _ (nsAt fl 17) hop (by omega) (by omega) h10 (by rw [nsAt_len]; decide) (by omega) (by decide) (by rw [prog_len hfl]; omega)
  · rw [nsAt_want, List.map_append, imm_be hfl him _ _ _ (by omega)]
    rfl
  · exact want_snoc_ok hfl hfs (immL_len (by omega) (by omega) him) (immL_small hims)
  · rw [List.length_append, wantP_len (Nat.le_refl _)]; simp
  · rw [List.length_append, wantP_len (Nat.le_refl _)]; simp
  · intro x hx
    rcases List.mem_append.1 hx with h1 | h1
    · exact pushB_small hfs 17 x h1
    · rcases List.mem_cons.1 h1 with rfl | h2
      · omega
      · exact hims x (List.mem_of_mem_take h2)
  · rw [prog_len hfl]; omega
  · intro sv w hw
    refine movesHolds_3 kind n cut fl im sv _ w hk hk2 hn hcu hfl hfs him hims (vw_0 _ _ _) ?_ (vwL_46 _ _ _) hw
    rw [vw_3]
    congr 2
    omega
theorem moves_any (kind n cut : Nat) (fl im : List Nat) (w : World) (hk2 : kind < 256) (hn : n < 256) (hcu : cut < 256) (hfl : fl.length = 136) (hfs : Small fl) (him : im.length = 32) (hims : Small im) : Calls Salg.prog 4 #[n8 kind, n8 n, n8 cut, .agg (fl.map n8).toArray, A8 im] w fun e w' => e = .returned (.bool true) ∧ Kept [] w w' := by
  have h : kind % 4 = 0 ∨ kind % 4 = 1 ∨ kind % 4 = 2 ∨ kind % 4 = 3 := by omega
  rcases h with h | h | h | h
  · exact moves_0 kind n cut fl im w hk2 hn hcu hfl hfs him hims h
  · exact moves_1 kind n cut fl im w hk2 hn hcu hfl hfs him hims h
  · exact moves_2 kind n cut fl im w hk2 hn hcu hfl hfs him hims h
  · exact moves_3 kind n cut fl im w hk2 hn hcu hfl hfs him hims h
end Go.Proofs.YgcsalGreat

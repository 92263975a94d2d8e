/-
  (*yp.State).cost and (*yp.Frame).grow at any memory; (*yp.State).refusal at the instructions of Copies.
-/
import Derived.Test.YgcsalGreatCp0
import Derived.Test.YgcsalGreatCp2
import Derived.Test.YgcsalGreatSl27
set_option linter.unusedSimpArgs false
set_option linter.unusedVariables false
namespace Go.Own
/-- What w words of memory cost. -/
def memC (n : Nat) : Nat := 3 * n + n * n / 512
theorem memC_mono {a b : Nat} (h : a ≤ b) : memC a ≤ memC b := by
  unfold memC
  have h1 : a * a ≤ b * b := Nat.mul_le_mul h h
  have h2 := Nat.div_le_div_right (c := 512) h1
  omega
theorem memC_le {a : Nat} (h : a ≤ 1000) : memC a ≤ 10000 := by
  have := memC_mono h
  exact Nat.le_trans this (by decide)
/-- The words that a reach needs. -/
def wds (U : Nat) : Nat := (U + 31) / 32
/-- The cost of growing from W words to the reach U. -/
def growC (W U : Nat) : Nat := memC (wds U) - memC W
end Go.Own
namespace Go.Proofs.YgcsalGreat
open Go.RowKit Go.Own
theorem cmp_le (v u : Value) (m n : Nat) (h : m ≤ n) (w : World) (hv : NumV w v m) (hu : NumV w u n) : Calls Salg.prog 72 #[v, u] w fun e w' => ∃ r : Int, e = .returned (.int .i8 r) ∧ (r = 0 ∨ r = -1) ∧ Kept [] w w' := by
  rcases Nat.lt_or_ge m n with hlt | hge
  · refine (cmp_lit v u m n (-1) (cmpI_lt hlt) w hv hu).mono ?_
    rintro e w' ⟨rfl, K⟩
    exact ⟨_, rfl, .inr rfl, K⟩
  · refine (cmp_lit v u m n 0 (cmpI_eq (by omega)) w hv hu).mono ?_
    rintro e w' ⟨rfl, K⟩
    exact ⟨_, rfl, .inl rfl, K⟩

set_option maxHeartbeats 4000000 in
set_option maxRecDepth 100000 in
theorem costM_no (st : Value) (fb q o C U L W : Nat) (fs : Array Value) (mp : Option Addr) (mc : Nat) (w : World) (hr : w.heap[fb]? = some (.cells fs 142 (0, 0))) (h9 : fs[q + 9]? = some (.slice mp L mc)) (hC : C < 256 ^ 100) (hL : L = 32 * W) (hW : W ≤ 100) (hU : U ≤ 10000) (hWU : wds U ≤ W)
    (hB : ∀ w', Kept [] w w' → Calls Salg.prog 217 #[st, .pointer (some ⟨fb, q, none⟩), .int .u8 o] w' fun e w'' => ∃ r, e = .returned r ∧ NumV w'' r C ∧ Kept [] w' w'')
    (hR : ∀ w', Kept [] w w' → Calls Salg.prog 114 #[.pointer (some ⟨fb, q, none⟩), .int .u8 o] w' fun e w'' => ∃ r, e = .returned r ∧ NumV w'' r U ∧ Kept [] w' w'') :
    Calls Salg.prog 183 #[st, .pointer (some ⟨fb, q, none⟩), .int .u8 o] w fun e w' => ∃ r, e = .returned r ∧ NumV w' r (C) ∧ Kept [] w w' := by
  have M := Mem.start w []
  have HB := hid hB
  have HRR := hid hR
  have HWU := hid hWU
  have hU1 : U < 256 ^ 100 := Nat.lt_of_le_of_lt hU (by decide)
  have hWd : wds U ≤ 1000 := by unfold wds; omega
  have HMW := hid (memC_mono (Nat.le_of_lt (show W < W + 1 by omega)))
  clear hB hR hWU
  go_enter Salg.func183, Salg.ntmps183
  go_wp2_with fail
  refine (HB.out _ M.kept).mono ?_
  rintro e w1 ⟨r, rfl, xHR, K⟩
  have HR := hid xHR
  replace M := M.call K
  clear K xHR
  go_wp2_with ((with_reducible apply W_loadCell); rfl; exact M.kept.row hr (by simp); exact h9; exact Salg.underlying40; rfl; simp only [Act.put, List.setIfInBounds_toArray, List.set_cons_zero, List.set_cons_succ])
  refine (num_int _ W (by first | omega | (simp; omega)) (by omega) _).mono ?_
  rintro e w2 ⟨r2, rfl, xHR2, K⟩
  have HR2 := hid xHR2
  replace HR := hid (HR.out.kept K)
  replace M := M.call K
  clear K xHR2
  go_wp2_with fail
  refine (HRR.out _ M.kept).mono ?_
  rintro e w3 ⟨r3, rfl, xHR3, K⟩
  have HR3 := hid xHR3
  replace HR := hid (HR.out.kept K)
  replace HR2 := hid (HR2.out.kept K)
  replace M := M.call K
  clear K xHR3
  go_wp2_with fail
  refine (words_any r3 U _ HR3.out hU1).mono ?_
  rintro e w4 ⟨r4, rfl, xHR4, K⟩
  have HR4 := hid xHR4
  replace HR := hid (HR.out.kept K)
  replace HR2 := hid (HR2.out.kept K)
  replace M := M.call K
  clear K xHR4
  go_wp2_with fail
  refine (cmp_le r4 r2 ((U + 31) / 32) W HWU.out _ HR4.out HR2.out).mono ?_
  rintro e w5 ⟨cz, rfl, hcz, K⟩
  replace HR := hid (HR.out.kept K)
  replace M := M.call K
  clear K
  have dz : decide (cz ≤ 0) = true := by simp; omega
  go_wp2_with fail
  go_ret
  exact ⟨_, rfl, HR.out, M.kept⟩

set_option maxHeartbeats 4000000 in
set_option maxRecDepth 100000 in
theorem costM_up (st : Value) (fb q o C U L W : Nat) (fs : Array Value) (mp : Option Addr) (mc : Nat) (w : World) (hr : w.heap[fb]? = some (.cells fs 142 (0, 0))) (h9 : fs[q + 9]? = some (.slice mp L mc)) (hC : C < 256 ^ 100) (hL : L = 32 * W) (hW : W ≤ 100) (hU : U ≤ 10000) (hWU : W < wds U)
    (hB : ∀ w', Kept [] w w' → Calls Salg.prog 217 #[st, .pointer (some ⟨fb, q, none⟩), .int .u8 o] w' fun e w'' => ∃ r, e = .returned r ∧ NumV w'' r C ∧ Kept [] w' w'')
    (hR : ∀ w', Kept [] w w' → Calls Salg.prog 114 #[.pointer (some ⟨fb, q, none⟩), .int .u8 o] w' fun e w'' => ∃ r, e = .returned r ∧ NumV w'' r U ∧ Kept [] w' w'') :
    Calls Salg.prog 183 #[st, .pointer (some ⟨fb, q, none⟩), .int .u8 o] w fun e w' => ∃ r, e = .returned r ∧ NumV w' r (C + growC W U) ∧ Kept [] w w' := by
  have M := Mem.start w []
  have HB := hid hB
  have HRR := hid hR
  have HWU := hid hWU
  have hU1 : U < 256 ^ 100 := Nat.lt_of_le_of_lt hU (by decide)
  have hWd : wds U ≤ 1000 := by unfold wds; omega
  have HMW := hid (memC_mono (Nat.le_of_lt (show W < W + 1 by omega)))
  clear hB hR hWU
  go_enter Salg.func183, Salg.ntmps183
  go_wp2_with fail
  refine (HB.out _ M.kept).mono ?_
  rintro e w1 ⟨r, rfl, xHR, K⟩
  have HR := hid xHR
  replace M := M.call K
  clear K xHR
  go_wp2_with ((with_reducible apply W_loadCell); rfl; exact M.kept.row hr (by simp); exact h9; exact Salg.underlying40; rfl; simp only [Act.put, List.setIfInBounds_toArray, List.set_cons_zero, List.set_cons_succ])
  refine (num_int _ W (by first | omega | (simp; omega)) (by omega) _).mono ?_
  rintro e w2 ⟨r2, rfl, xHR2, K⟩
  have HR2 := hid xHR2
  replace HR := hid (HR.out.kept K)
  replace M := M.call K
  clear K xHR2
  go_wp2_with fail
  refine (HRR.out _ M.kept).mono ?_
  rintro e w3 ⟨r3, rfl, xHR3, K⟩
  have HR3 := hid xHR3
  replace HR := hid (HR.out.kept K)
  replace HR2 := hid (HR2.out.kept K)
  replace M := M.call K
  clear K xHR3
  go_wp2_with fail
  refine (words_any r3 U _ HR3.out hU1).mono ?_
  rintro e w4 ⟨r4, rfl, xHR4, K⟩
  have HR4 := hid xHR4
  replace HR := hid (HR.out.kept K)
  replace HR2 := hid (HR2.out.kept K)
  replace M := M.call K
  clear K xHR4
  go_wp2_with fail
  refine (cmp_lit r4 r2 ((U + 31) / 32) W 1 (cmpI_gt HWU.out) _ HR4.out HR2.out).mono ?_
  rintro e w5 ⟨rfl, K⟩
  replace HR := hid (HR.out.kept K)
  replace HR2 := hid (HR2.out.kept K)
  replace HR4 := hid (HR4.out.kept K)
  replace M := M.call K
  clear K
  go_wp2_with fail
  refine (memCost_any r4 ((U + 31) / 32) _ HR4.out hWd).mono ?_
  rintro e w6 ⟨r5, rfl, xHR5, K⟩
  have HR5 := hid xHR5
  replace HR := hid (HR.out.kept K)
  replace HR2 := hid (HR2.out.kept K)
  replace M := M.call K
  clear K xHR5
  go_wp2_with fail
  refine (memCost_any r2 W _ HR2.out (by omega)).mono ?_
  rintro e w7 ⟨r6, rfl, xHR6, K⟩
  have HR6 := hid xHR6
  replace HR := hid (HR.out.kept K)
  replace HR5 := hid (HR5.out.kept K)
  replace M := M.call K
  clear K xHR6
  go_wp2_with fail
  have hb1 : memC (wds U) ≤ 10000 := memC_le hWd
  have hb2 : memC W ≤ memC (wds U) := memC_mono (Nat.le_of_lt HWU.out)
  have hb3 : memC (wds U) < 256 ^ 200 := Nat.lt_of_le_of_lt hb1 (by decide)
  have hb4 : memC (wds U) - memC W < 256 ^ 200 := Nat.lt_of_le_of_lt (Nat.sub_le _ _) hb3
  refine (less_any r5 r6 (memC (wds U)) (memC W) _ HR5.out HR6.out hb3 hb2).mono ?_
  rintro e w8 ⟨r7, rfl, xHR7, K⟩
  have HR7 := hid xHR7
  replace HR := hid (HR.out.kept K)
  replace M := M.call K
  clear K xHR7
  go_wp2_with fail
  refine (add_num r r7 C (memC (wds U) - memC W) _ HR.out HR7.out (Nat.lt_of_lt_of_le hC (by decide)) hb4).mono ?_
  rintro e w9 ⟨r8, rfl, xHR8, K⟩
  have HR8 := hid xHR8
  replace M := M.call K
  clear K xHR8
  go_wp2_with fail
  go_ret
  exact ⟨_, rfl, HR8.out, M.kept⟩

set_option maxHeartbeats 4000000 in
set_option maxRecDepth 100000 in
theorem growM_no (fb q U L W : Nat) (fs : Array Value) (mp : Option Addr) (mc : Nat) (r : Value) (w : World) (hr : w.heap[fb]? = some (.cells fs 142 (0, 0))) (h9 : fs[q + 9]? = some (.slice mp L mc)) (hu : NumV w r U) (hL : L = 32 * W) (hW : W ≤ 100) (hU : U ≤ 10000) (hWU : wds U ≤ W) :
    Calls Salg.prog 113 #[.pointer (some ⟨fb, q, none⟩), r] w fun e w' => ∃ r', e = .returned r' ∧ Kept [] w w' := by
  have M := Mem.start w []
  have hU1 : U < 256 ^ 100 := Nat.lt_of_le_of_lt hU (by decide)
  have HU := hid hu
  have hWU2 : (U + 31) / 32 ≤ W := hWU
  have hWd : (U + 31) / 32 ≤ 1000 := by omega
  clear hu hWU
  go_enter Salg.func113, Salg.ntmps113
  go_wp2_with fail
  refine (words_any r U _ HU.out hU1).mono ?_
  rintro e w1 ⟨r1, rfl, xHR, K⟩
  have HR := hid xHR
  replace M := M.call K
  clear K xHR
  go_wp2_with fail
  refine (small_any r1 ((U + 31) / 32) _ HR.out (by omega)).mono ?_
  rintro e w2 ⟨rfl, hw⟩
  replace hw := hw.symm
  subst hw
  generalize (U + 31) / 32 = V at *
  have d1 : decide (((L : Int) / 32) < (V : Int)) = false := by simp; omega
  have d2 : decide (L / 32 < V) = false := by simp; omega
  have d3 : decide ((W : Int) < (V : Int)) = false := by simp; omega
  go_wp2_with ((with_reducible apply W_loadCell); rfl; exact M.kept.row hr (by simp); exact h9; exact Salg.underlying40; rfl; simp only [Act.put, List.setIfInBounds_toArray, List.set_cons_zero, List.set_cons_succ])
  go_end0
  exact ⟨_, rfl, M.kept⟩

set_option maxHeartbeats 4000000 in
set_option maxRecDepth 100000 in
theorem growM_new (S : List Nat) (rr fb q m G U : Nat) (fs0 : Array Value) (ns : List Nat) (u : Value) (w : World) (hF : FrameM S rr w fb q fs0 m G ns (nilS)) (hu : NumV w u U) (hU : U ≤ 10000) (hWU : 0 < wds U) :
    Calls Salg.prog 113 #[.pointer (some ⟨fb, q, none⟩), u] w fun e w' => ∃ r mb, e = .returned r ∧ w.heap.size ≤ mb ∧ FrameQ w' fb q fs0 m G ns (.slice (some ⟨mb, 0, none⟩) (32 * wds U) (32 * wds U)) ∧ FrameM S rr w' fb q fs0 m G ns (.slice (some ⟨mb, 0, none⟩) (32 * wds U) (32 * wds U)) ∧ FrameM [mb] ns.length w' fb q fs0 m G ns (.slice (some ⟨mb, 0, none⟩) (32 * wds U) (32 * wds U)) ∧ w'.heap[mb]? = some (R8 5 (List.replicate (32 * wds U) 0)) ∧ Kept [fb] w w' := by
  have M := Mem.start w []
  have hU1 : U < 256 ^ 100 := Nat.lt_of_le_of_lt hU (by decide)
  obtain ⟨fs, pv, gv, sv, xs, hr, h0, h2, h3, h4, h5, h6, h7, h8, h9, ha, hbo⟩ := hF
  obtain ⟨p, n, cp, rfl⟩ := rowV_slice h8
  have hnb := hid (not_bytes_at (tc := 142) h7)
  have z9 : q + 9 < fs.size := (Array.getElem?_eq_some_iff.1 ha).1
  have HX0 := hid h0
  have HX2 := hid h2
  have HX4 := hid h4
  have HX6 := hid h6
  have HX8 := hid h8
  have HX9 := hid h9
  have HBO := hid hbo
  have HU := hid hu
  have hWU2 : 0 < (U + 31) / 32 := hWU
  have hWd : (U + 31) / 32 ≤ 1000 := by omega
  have e0 : wds U = (U + 31) / 32 := rfl
  rw [e0]
  clear h0 h2 h4 h6 h8 h9 hu hbo hWU e0
  have hlt := lt_of_row hr
  go_enter Salg.func113, Salg.ntmps113
  go_wp2_with fail
  refine (words_any u U _ HU.out hU1).mono ?_
  rintro e w1 ⟨r1, rfl, xH1, K⟩
  have H1 := hid xH1
  replace M := M.call K
  clear K xH1
  go_wp2_with fail
  refine (small_any r1 ((U + 31) / 32) _ H1.out (by omega)).mono ?_
  rintro e w2 ⟨rfl, hw⟩
  replace hw := hw.symm
  subst hw
  clear H1 HU
  obtain ⟨V, HV⟩ : ∃ V, Hid (V = (U + 31) / 32) := ⟨_, rfl⟩
  rw [← HV.out] at hWU2 hWd
  rw [← HV.out]
  have d1 : decide ((0 : Int) < (V : Int)) = true := by simp; omega
  have d2 : decide (0 < V) = true := by simp; omega
  go_wp2_with (first
    | ((with_reducible apply W_loadCell); rfl; exact M.kept.row hr (by simp); exact ha; exact Salg.underlying40; rfl; simp only [Act.put, List.setIfInBounds_toArray, List.set_cons_zero, List.set_cons_succ])
    | ((with_reducible apply W_make8 (n := 32 * V) M); rfl; rfl; (first | rfl | omega); (first | rfl | omega); omega; exact Salg.underlying40; exact info5; clear M; intro mb w3 hmb M; simp only [Act.put, List.setIfInBounds_toArray, List.set_cons_zero, List.set_cons_succ])
    | ((with_reducible apply W_copy0); rfl; rfl; exact Salg.underlying40; exact size5; rfl; simp only [Act.put, List.setIfInBounds_toArray, List.set_cons_zero, List.set_cons_succ])
    | ((with_reducible apply W_stV (b := fb) (o := q + 9) (v := .slice (some ⟨mb, 0, none⟩) (32 * V) (32 * V))); rfl; rfl; rfl; exact M.kept.row hr (by simp); exact size40; exact z9; intro w5 K1 hr4))
  go_end0
  have hrow := M.kept.row hr (by simp)
  have hmf : mb ≠ fb := by omega
  have KK : Kept [fb] w w5 := (M.kept.mono (by simp)).trans K1
  have hFS : FrameM S rr w5 fb q fs0 m G ns (.slice (some ⟨mb, 0, none⟩) (32 * V) (32 * V)) := ⟨_, pv, gv, .slice p n cp, xs, hr4, by simp only [Array.size_setIfInBounds]; exact HX0.out, fun k k3 k4 k8 k9 => by rw [Array.getElem?_setIfInBounds_ne (by omega)]; exact HX2.out k k3 k4 k8 k9, by rw [Array.getElem?_setIfInBounds_ne (by omega)]; exact h3, HX4.out.keptC KK hr hnb.out, by rw [Array.getElem?_setIfInBounds_ne (by omega)]; exact h5, HX6.out.keptC KK hr hnb.out, by rw [Array.getElem?_setIfInBounds_ne (by omega)]; exact h7, HX8.out.keptC KK hr (by decide), HX9.out.keptC KK hr hnb.out, Array.getElem?_setIfInBounds_self_of_lt z9, fun j v N e1 e2 e3 => (HBO.out j v N e1 e2 e3).keptC KK hr hnb.out⟩
  have hNS : ∀ (v : Value) (N : Nat), NumV w v N → NumS [mb] w5 v N := fun v N h => (h.off (S := [mb]) (by simpa using hmb)).keptC KK hr hnb.out
  have hFB : FrameM [mb] ns.length w5 fb q fs0 m G ns (.slice (some ⟨mb, 0, none⟩) (32 * V) (32 * V)) := ⟨_, pv, gv, .slice p n cp, xs, hr4, by simp only [Array.size_setIfInBounds]; exact HX0.out, fun k k3 k4 k8 k9 => by rw [Array.getElem?_setIfInBounds_ne (by omega)]; exact HX2.out k k3 k4 k8 k9, by rw [Array.getElem?_setIfInBounds_ne (by omega)]; exact h3, hNS _ _ HX4.out.num, by rw [Array.getElem?_setIfInBounds_ne (by omega)]; exact h5, hNS _ _ HX6.out.num, by rw [Array.getElem?_setIfInBounds_ne (by omega)]; exact h7, HX8.out.keptC KK hr (by decide), HX9.out.keptC KK hr hnb.out, Array.getElem?_setIfInBounds_self_of_lt z9, fun j v N e1 e2 e3 => hNS _ _ (HX9.out.2 j v N e2 e3)⟩
  rw [← HV.out]
  refine ⟨_, mb, rfl, hmb, hFS.toQ, hFS, hFB, ?_, KK⟩
  exact K1.row M.r0 (by simpa using hmf)

set_option maxHeartbeats 4000000 in
set_option maxRecDepth 100000 in
theorem growM_more (S : List Nat) (rr fb q m G U : Nat) (fs0 : Array Value) (ns : List Nat) (b0 W : Nat) (mem : List Nat) (u : Value) (w : World) (hF : FrameM S rr w fb q fs0 m G ns (.slice (some ⟨b0, 0, none⟩) mem.length mem.length)) (hu : NumV w u U) (hU : U ≤ 10000) (hmr : w.heap[b0]? = some (R8 5 mem)) (hL : mem.length = 32 * W) (hW : W ≤ 100) (hW0 : 0 < W) (hWU : W < wds U) :
    Calls Salg.prog 113 #[.pointer (some ⟨fb, q, none⟩), u] w fun e w' => ∃ r mb, e = .returned r ∧ w.heap.size ≤ mb ∧ FrameQ w' fb q fs0 m G ns (.slice (some ⟨mb, 0, none⟩) (32 * wds U) (32 * wds U)) ∧ FrameM S rr w' fb q fs0 m G ns (.slice (some ⟨mb, 0, none⟩) (32 * wds U) (32 * wds U)) ∧ FrameM [mb] ns.length w' fb q fs0 m G ns (.slice (some ⟨mb, 0, none⟩) (32 * wds U) (32 * wds U)) ∧ w'.heap[mb]? = some (R8 5 (mem ++ List.replicate (32 * wds U - mem.length) 0)) ∧ Kept [fb] w w' := by
  have M := Mem.start w []
  have hU1 : U < 256 ^ 100 := Nat.lt_of_le_of_lt hU (by decide)
  obtain ⟨fs, pv, gv, sv, xs, hr, h0, h2, h3, h4, h5, h6, h7, h8, h9, ha, hbo⟩ := hF
  obtain ⟨p, n, cp, rfl⟩ := rowV_slice h8
  have hnb := hid (not_bytes_at (tc := 142) h7)
  have z9 : q + 9 < fs.size := (Array.getElem?_eq_some_iff.1 ha).1
  have HX0 := hid h0
  have HX2 := hid h2
  have HX4 := hid h4
  have HX6 := hid h6
  have HX8 := hid h8
  have HX9 := hid h9
  have HBO := hid hbo
  have HU := hid hu
  have hWU2 : W < (U + 31) / 32 := hWU
  have hWd : (U + 31) / 32 ≤ 1000 := by omega
  have e0 : wds U = (U + 31) / 32 := rfl
  rw [e0]
  clear h0 h2 h4 h6 h8 h9 hu hbo hWU e0
  have hlt := lt_of_row hr
  have hlb := lt_of_row hmr
  have HMR : Hid (w.heap[b0]? = some (.cells (mem.map n8).toArray 5 (0, 0))) := hmr
  have hbf : b0 ≠ fb := by
    rintro rfl
    rw [hmr] at hr
    cases hr
  clear hmr
  obtain ⟨L, HL⟩ : ∃ L, Hid (mem.length = L) := ⟨_, rfl⟩
  rw [HL.out] at ha hL
  go_enter Salg.func113, Salg.ntmps113
  go_wp2_with fail
  refine (words_any u U _ HU.out hU1).mono ?_
  rintro e w1 ⟨r1, rfl, xH1, K⟩
  have H1 := hid xH1
  replace M := M.call K
  clear K xH1
  go_wp2_with fail
  refine (small_any r1 ((U + 31) / 32) _ H1.out (by omega)).mono ?_
  rintro e w2 ⟨rfl, hw⟩
  replace hw := hw.symm
  subst hw
  clear H1 HU
  obtain ⟨V, HV⟩ : ∃ V, Hid (V = (U + 31) / 32) := ⟨_, rfl⟩
  rw [← HV.out] at hWU2 hWd
  rw [← HV.out]
  have d1 : decide (((L : Int) / 32) < (V : Int)) = true := by simp; omega
  have d2 : decide (L / 32 < V) = true := by simp; omega
  have d3 : decide ((W : Int) < (V : Int)) = true := by simp; omega
  have HLE : Hid ((mem.map n8).length = min L (32 * V)) := by show _ = _; rw [List.length_map, HL.out]; omega
  have HSR : Hid (∀ (j : Nat) (v : Value), (mem.map n8)[j]? = some v → (mem.map n8).toArray[0 + j]? = some v) := by
    intro j v hj
    rw [Nat.zero_add, List.getElem?_toArray]
    exact hj
  have HFI : Hid (0 + (mem.map n8).length ≤ ((List.replicate (32 * V) 0).map n8).toArray.size) := by show _ ≤ _; simp [HL.out]; omega
  have HON : Hid (∀ v ∈ mem.map n8, v.oneCell' = true) := by
    intro v hv
    obtain ⟨x, _, rfl⟩ := List.mem_map.1 hv
    rfl
  have HSP : Hid ((((List.replicate (32 * V) 0).map n8).toArray.toList.take 0 ++ mem.map n8 ++ ((List.replicate (32 * V) 0).map n8).toArray.toList.drop (0 + (mem.map n8).length)) = (mem ++ List.replicate (32 * V - L) 0).map n8) := by
    show _ = _
    simp [HL.out]
  go_wp2_with (first
    | ((with_reducible apply W_loadCell); rfl; exact M.kept.row hr (by simp); exact ha; exact Salg.underlying40; rfl; simp only [Act.put, List.setIfInBounds_toArray, List.set_cons_zero, List.set_cons_succ])
    | ((with_reducible apply W_make8 (n := 32 * V) M); rfl; rfl; (first | rfl | omega); (first | rfl | omega); omega; exact Salg.underlying40; exact info5; clear M; intro mb w3 hmb M; simp only [Act.put, List.setIfInBounds_toArray, List.set_cons_zero, List.set_cons_succ])
    | ((with_reducible apply W_copyAt (b := mb) (o := 0) (b' := b0) (so := 0) (news := mem.map n8) (cur := ((List.replicate (32 * V) 0).map n8).toArray) (t := 5)); rfl; rfl; exact Salg.underlying40; exact size5; exact M.r0; exact M.kept.row HMR.out (by simp); exact HLE.out; exact HSR.out; exact HFI.out; exact HON.out; intro w4 K hr4; rw [HSP.out] at hr4; replace M := Mem.callPut (L1 := []) M (Or.inr hmb) K hr4; clear K hr4; simp only [List.nil_append] at M; simp only [Act.put, List.setIfInBounds_toArray, List.set_cons_zero, List.set_cons_succ])
    | ((with_reducible apply W_stV (b := fb) (o := q + 9) (v := .slice (some ⟨mb, 0, none⟩) (32 * V) (32 * V))); rfl; rfl; rfl; exact M.kept.row hr (by simp); exact size40; exact z9; intro w5 K1 hr4))
  go_end0
  have hrow := M.kept.row hr (by simp)
  have hmf : mb ≠ fb := by omega
  have KK : Kept [fb] w w5 := (M.kept.mono (by simp)).trans K1
  have hFS : FrameM S rr w5 fb q fs0 m G ns (.slice (some ⟨mb, 0, none⟩) (32 * V) (32 * V)) := ⟨_, pv, gv, .slice p n cp, xs, hr4, by simp only [Array.size_setIfInBounds]; exact HX0.out, fun k k3 k4 k8 k9 => by rw [Array.getElem?_setIfInBounds_ne (by omega)]; exact HX2.out k k3 k4 k8 k9, by rw [Array.getElem?_setIfInBounds_ne (by omega)]; exact h3, HX4.out.keptC KK hr hnb.out, by rw [Array.getElem?_setIfInBounds_ne (by omega)]; exact h5, HX6.out.keptC KK hr hnb.out, by rw [Array.getElem?_setIfInBounds_ne (by omega)]; exact h7, HX8.out.keptC KK hr (by decide), HX9.out.keptC KK hr hnb.out, Array.getElem?_setIfInBounds_self_of_lt z9, fun j v N e1 e2 e3 => (HBO.out j v N e1 e2 e3).keptC KK hr hnb.out⟩
  have hNS : ∀ (v : Value) (N : Nat), NumV w v N → NumS [mb] w5 v N := fun v N h => (h.off (S := [mb]) (by simpa using hmb)).keptC KK hr hnb.out
  have hFB : FrameM [mb] ns.length w5 fb q fs0 m G ns (.slice (some ⟨mb, 0, none⟩) (32 * V) (32 * V)) := ⟨_, pv, gv, .slice p n cp, xs, hr4, by simp only [Array.size_setIfInBounds]; exact HX0.out, fun k k3 k4 k8 k9 => by rw [Array.getElem?_setIfInBounds_ne (by omega)]; exact HX2.out k k3 k4 k8 k9, by rw [Array.getElem?_setIfInBounds_ne (by omega)]; exact h3, hNS _ _ HX4.out.num, by rw [Array.getElem?_setIfInBounds_ne (by omega)]; exact h5, hNS _ _ HX6.out.num, by rw [Array.getElem?_setIfInBounds_ne (by omega)]; exact h7, HX8.out.keptC KK hr (by decide), HX9.out.keptC KK hr hnb.out, Array.getElem?_setIfInBounds_self_of_lt z9, fun j v N e1 e2 e3 => hNS _ _ (HX9.out.2 j v N e2 e3)⟩
  rw [← HV.out]
  refine ⟨_, mb, rfl, hmb, hFS.toQ, hFS, hFB, ?_, KK⟩
  rw [HL.out]; exact K1.row M.r0 (by simpa using hmf)
end Go.Proofs.YgcsalGreat

/-
  The walk of law.applied at a call with data, over any run.
-/
import Derived.Test.YgcsalGreatCp34
import Derived.Test.YgcsalGreatCp37
import Derived.Test.YgcsalGreatSl41
set_option linter.unusedSimpArgs false
set_option linter.unusedVariables false
namespace Go.Proofs.YgcsalGreat
open Go.RowKit Go.Own
/-- A run from behind Begin to this end, wherever it begins. -/
def RunsTo (st n : Nat) (dd ds1 ds2 bs : List Nat) : Prop := ∀ (w0 wB : World) (c fb cap : Nat) (E : CEnv) (cur : Array Value) (cv iu vv g0 a0 a1 a2 a3 : Value), BegS w0 wB c fb cap E cur dd ds1 ds2 cv iu vv g0 a0 a1 a2 a3 → StG 170000 200000 wB c fb E 0 fb 0 1 cap cur 0 [] [] 0 nilS [] la5 wB → Play c (fun w2 => EndZ w2 c st bs ∧ Kept [c] w0 w2) n wB
theorem applyR_D (c n n0 cd : Nat) (pd : Option Addr) (dd ds1 ds2 bs : List Nat) (va tv nv bv cu nvb bvb cub nv2 bv2 : Value) (w : World) (hR : RunsTo 0 n dd ds1 ds2 bs) (hcl : c < w.heap.size) (hc : w.heap[c]? = some (.cells (ch0 va tv) 119 (0, 0))) (hv : AcsV w va (l3 nv bv cu nilS nvb bvb cub nv2 bv2)) (hnv : NumV w nv 1) (hbv : NumV w bv 0) (hcu : NatV w cu ds1) (hnb : NumV w nvb 1) (hbb : NumV w bvb 0) (hcb : NatV w cub ds2) (hn2 : NumV w nv2 0) (hb2 : NumV w bv2 340282366920938463463374607431768211456) (htv : NumV w tv 340282366920938463463374607431768211456) (hdv : NatV w (Value.slice pd n0 cd) dd) (hdl : dd.length = n0) (hn96 : n0 ≤ 96) :
    Calls Salg.prog 35 #[.pointer (some ⟨c, 0, none⟩), .agg (txP (Value.slice pd n0 cd)).toArray] w fun e w' => ∃ (ou : Value) (U : Nat), e = .returned (.agg (rcL (n64 U) ou).toArray) ∧ NatV w' ou bs ∧ Kept [c] w w' := by
  refine apply_D c n n0 cd pd bs w hcl ?_
  intro w1 K
  refine (begin_S c n0 cd pd dd va tv nv bv cu nvb bvb cub nv2 bv2 ds1 ds2 w1 (K.row hc (by simp)) (hv.kept K) (hnv.kept K) (hbv.kept K) (hcu.kept K) (hnb.kept K) (hbb.kept K) (hcb.kept K) (hdv.kept K) hdl hn96 (hn2.kept K) (hb2.kept K) (htv.kept K)).mono ?_
  rintro e w' ⟨he, fb, cap, E, cur, cv, iu, vv, g0, a0, a1, a2, a3, B, h⟩
  exact ⟨he, hR _ _ _ _ _ _ _ _ _ _ _ _ _ _ _ B h⟩

set_option maxHeartbeats 4000000 in
set_option maxRecDepth 100000 in
theorem applied_D (n n0 cd : Nat) (pd : Option Addr) (dd ds1 ds2 bs : List Nat) (v u1 u2 : Value) (w : World) (hR : RunsTo 0 n dd ds1 ds2 bs) (hv : OasV w v [oaN 1 u1, oaN 2 u2, oaB]) (hu1 : NatV w u1 ds1) (hu2 : NatV w u2 ds2) (hdv : NatV w (Value.slice pd n0 cd) dd) (hdl : dd.length = n0) (hn96 : n0 ≤ 96) :
    Calls Salg.prog 25 #[v, .agg (txP (Value.slice pd n0 cd)).toArray] w fun e w' => ∃ (ou : Value) (U : Nat), e = .returned (.agg (rcL (n64 U) ou).toArray) ∧ NatV w' ou bs ∧ Kept [] w w' := by
  have M := Mem.start w []
  have HSP := hid (fun w' (K : Kept [] w w') => specOf_three v u1 u2 ds1 ds2 w' (hv.kept K) (hu1.kept K) (hu2.kept K))
  have HDV := hid hdv
  have HDL := hid hdl
  have HAP := hid (fun c va tv nv bv cu nvb bvb cub nv2 bv2 w' hcl hc hva hnv hbv hcu hnb hbb hcb hn2 hb2 htv hd => applyR_D c n n0 cd pd dd ds1 ds2 bs va tv nv bv cu nvb bvb cub nv2 bv2 w' hR hcl hc hva hnv hbv hcu hnb hbb hcb hn2 hb2 htv hd hdl hn96)
  clear hR hv hu1 hu2 hdv hdl hn96
  go_enter Salg.func25, Salg.ntmps25
  go_wp2_with (first
    | ((with_reducible apply L_box M); rfl; clear M; intro t3 w1 ht3 M; simp only [Act.put, List.setIfInBounds_toArray, List.set_cons_zero, List.set_cons_succ])
    | ((with_reducible apply L_allocA (d := 4) M); exact zero65; clear M; intro t4 w2 ht4 M; simp only [Act.put, List.setIfInBounds_toArray, List.set_cons_zero, List.set_cons_succ]))
  refine S_region (by kernel_rfl) ?_
  refine E_stage 0 4 [0, 2, 1, 3] (by kernel_rfl) M.drew ?_
  clear M
  simp only [List.filterMap_cons, List.filterMap_nil, List.getElem?_cons_zero, List.getElem?_cons_succ]
  ((with_reducible apply E_run); rfl; rfl; (intro w M; go_simp; (try go_ints); (try simp only [↓IntWalk.iteOmega]); (try with_reducible rfl)); simp only [Act.put, List.setIfInBounds_toArray, List.set_cons_zero, List.set_cons_succ])
  ((with_reducible apply E_run); rfl; rfl; (intro w M; exact run_loadAll M.r1 rfl Salg.underlying49 rfl (size49D _ _ _)); simp only [Act.put, List.setIfInBounds_toArray, List.set_cons_zero, List.set_cons_succ])
  refine E_call rfl Salg.func13 (by kernel_rfl) (by kernel_rfl) (args := [v]) rfl ?_
  intro w3 K M
  clear K
  have hlt := fun p hp => M.lt (p := p) hp
  refine (HSP.out w3 M.kept).mono ?_
  rintro e w4 ⟨c, va, tv, nv, bv, cu, nvb, bvb, cub, nv2, bv2, rfl, xc, xa, x1, x2, x3, x4, x5, x6, x7, x8, x9, xs, K⟩
  have hw3 := M.kept.size
  have hcw : w.heap.size ≤ c := Nat.le_trans hw3 xs
  have hc3 : c ≠ t3 := fun e => absurd (hlt _ (List.mem_cons_of_mem _ (List.mem_cons_self ..))) (by simp only []; omega)
  have hc4 : c ≠ t4 := fun e => absurd (hlt _ (List.mem_cons_self ..)) (by simp only []; omega)
  have HX := hid (And.intro xc (And.intro xa (And.intro x1 (And.intro x2 (And.intro x3 (And.intro x4 (And.intro x5 (And.intro x6 (And.intro x7 (And.intro x8 x9))))))))))
  replace M := M.call K
  clear K xc xa x1 x2 x3 x4 x5 x6 x7 x8 x9 xs hlt hw3
  refine ⟨_, rfl, trivial, M, ?_⟩
  simp only [Act.put, List.setIfInBounds_toArray, List.set_cons_zero, List.set_cons_succ]
  refine E_call rfl Salg.func35 (by kernel_rfl) (by kernel_rfl) (args := [.pointer (some ⟨c, 0, none⟩), .agg (txP (Value.slice pd n0 cd)).toArray]) rfl ?_
  intro w5 K M
  obtain ⟨xc, xa, x1, x2, x3, x4, x5, x6, x7, x8, x9⟩ := HX.out
  have hc5 := K.row xc (by simp)
  refine (HAP.out c va tv nv bv cu nvb bvb cub nv2 bv2 w5 (lt_of_row hc5) hc5 (xa.kept K) (x1.kept K) (x2.kept K) (x3.kept K) (x4.kept K) (x5.kept K) (x6.kept K) (x7.kept K) (x8.kept K) (x9.kept K) (HDV.out.kept M.kept)).mono ?_
  clear K xa x1 x2 x3 x4 x5 x6 x7 x8 x9 xc HX
  rintro e w6 ⟨ou, U, rfl, xo, K⟩
  have HOU := hid xo
  obtain ⟨o6, ho6⟩ : ∃ o6, w6.heap[c]? = some o6 := ⟨_, Array.getElem?_eq_getElem (Nat.lt_of_lt_of_le (lt_of_row hc5) K.size)⟩
  replace M := M.callNew K hcw hc5 ho6 (by
    intro p hp
    simp only [List.mem_cons, List.not_mem_nil, or_false] at hp
    rcases hp with rfl | rfl
    · exact hc4
    · exact hc3)
  clear K xo hc5 ho6
  refine ⟨_, rfl, trivial, M, ?_⟩
  simp only [Act.put, List.setIfInBounds_toArray, List.set_cons_zero, List.set_cons_succ]
  refine E_nil ?_
  intro w7 K M
  replace HOU := hid (HOU.out.kept K)
  clear K
  refine S_seg 4 5 (by kernel_rfl) (by decide) ?_
  simp only [List.take_succ_cons, List.take_zero, List.drop_zero, List.drop_succ_cons, Nat.sub_zero, Nat.reduceSub]
  have hr4 := M.r0
  have HN : Hid (∀ t l, Obj.cells (rcL (n64 0) nilS).toArray 65 (0, 0) ≠ R8 t l) := not_bytes_at (cs := (rcL (n64 0) nilS).toArray) (tc := 65) (i := 4) (p := none) (n := 0) (m := 0) (by kernel_rfl)
  have HO := hid (rcL_one (u := n64 U) rfl HOU.out.one)
  have HMK := hid M.kept
  clear M
  go_wp2_with ((with_reducible apply W_storeK (b := t4) (vs := (rcL (n64 U) ou).toArray)); rfl; rfl; exact hr4; exact size65; rfl; exact HO.out; intro w8 KT hrt)
  refine S_done ?_
  go_wp2_with fail
  refine ret_cell1 Salg.results25 rfl hrt Salg.underlying65 rfl size65 rfl ?_
  exact ⟨ou, U, rfl, HOU.out.keptC KT hr4 HN.out, HMK.out.newer KT ht4⟩
theorem applyR_F (c n n0 cd : Nat) (pd : Option Addr) (dd ds1 ds2 bs : List Nat) (va tv nv bv cu nvb bvb cub nv2 bv2 : Value) (w : World) (hR : RunsTo 8 n dd ds1 ds2 bs) (hcl : c < w.heap.size) (hc : w.heap[c]? = some (.cells (ch0 va tv) 119 (0, 0))) (hv : AcsV w va (l3 nv bv cu nilS nvb bvb cub nv2 bv2)) (hnv : NumV w nv 1) (hbv : NumV w bv 0) (hcu : NatV w cu ds1) (hnb : NumV w nvb 1) (hbb : NumV w bvb 0) (hcb : NatV w cub ds2) (hn2 : NumV w nv2 0) (hb2 : NumV w bv2 340282366920938463463374607431768211456) (htv : NumV w tv 340282366920938463463374607431768211456) (hdv : NatV w (Value.slice pd n0 cd) dd) (hdl : dd.length = n0) (hn96 : n0 ≤ 96) :
    Calls Salg.prog 35 #[.pointer (some ⟨c, 0, none⟩), .agg (txP (Value.slice pd n0 cd)).toArray] w fun e w' => ∃ (ou : Value) (U : Nat), e = .returned (.agg (rcF (n64 U) ou).toArray) ∧ NatV w' ou bs ∧ Kept [c] w w' := by
  refine apply_F c n n0 cd pd bs w hcl ?_
  intro w1 K
  refine (begin_S c n0 cd pd dd va tv nv bv cu nvb bvb cub nv2 bv2 ds1 ds2 w1 (K.row hc (by simp)) (hv.kept K) (hnv.kept K) (hbv.kept K) (hcu.kept K) (hnb.kept K) (hbb.kept K) (hcb.kept K) (hdv.kept K) hdl hn96 (hn2.kept K) (hb2.kept K) (htv.kept K)).mono ?_
  rintro e w' ⟨he, fb, cap, E, cur, cv, iu, vv, g0, a0, a1, a2, a3, B, h⟩
  exact ⟨he, hR _ _ _ _ _ _ _ _ _ _ _ _ _ _ _ B h⟩

set_option maxHeartbeats 4000000 in
set_option maxRecDepth 100000 in
theorem applied_F (n n0 cd : Nat) (pd : Option Addr) (dd ds1 ds2 bs : List Nat) (v u1 u2 : Value) (w : World) (hR : RunsTo 8 n dd ds1 ds2 bs) (hv : OasV w v [oaN 1 u1, oaN 2 u2, oaB]) (hu1 : NatV w u1 ds1) (hu2 : NatV w u2 ds2) (hdv : NatV w (Value.slice pd n0 cd) dd) (hdl : dd.length = n0) (hn96 : n0 ≤ 96) :
    Calls Salg.prog 25 #[v, .agg (txP (Value.slice pd n0 cd)).toArray] w fun e w' => ∃ (ou : Value) (U : Nat), e = .returned (.agg (rcF (n64 U) ou).toArray) ∧ NatV w' ou bs ∧ Kept [] w w' := by
  have M := Mem.start w []
  have HSP := hid (fun w' (K : Kept [] w w') => specOf_three v u1 u2 ds1 ds2 w' (hv.kept K) (hu1.kept K) (hu2.kept K))
  have HDV := hid hdv
  have HDL := hid hdl
  have HAP := hid (fun c va tv nv bv cu nvb bvb cub nv2 bv2 w' hcl hc hva hnv hbv hcu hnb hbb hcb hn2 hb2 htv hd => applyR_F c n n0 cd pd dd ds1 ds2 bs va tv nv bv cu nvb bvb cub nv2 bv2 w' hR hcl hc hva hnv hbv hcu hnb hbb hcb hn2 hb2 htv hd hdl hn96)
  clear hR hv hu1 hu2 hdv hdl hn96
  go_enter Salg.func25, Salg.ntmps25
  go_wp2_with (first
    | ((with_reducible apply L_box M); rfl; clear M; intro t3 w1 ht3 M; simp only [Act.put, List.setIfInBounds_toArray, List.set_cons_zero, List.set_cons_succ])
    | ((with_reducible apply L_allocA (d := 4) M); exact zero65; clear M; intro t4 w2 ht4 M; simp only [Act.put, List.setIfInBounds_toArray, List.set_cons_zero, List.set_cons_succ]))
  refine S_region (by kernel_rfl) ?_
  refine E_stage 0 4 [0, 2, 1, 3] (by kernel_rfl) M.drew ?_
  clear M
  simp only [List.filterMap_cons, List.filterMap_nil, List.getElem?_cons_zero, List.getElem?_cons_succ]
  ((with_reducible apply E_run); rfl; rfl; (intro w M; go_simp; (try go_ints); (try simp only [↓IntWalk.iteOmega]); (try with_reducible rfl)); simp only [Act.put, List.setIfInBounds_toArray, List.set_cons_zero, List.set_cons_succ])
  ((with_reducible apply E_run); rfl; rfl; (intro w M; exact run_loadAll M.r1 rfl Salg.underlying49 rfl (size49D _ _ _)); simp only [Act.put, List.setIfInBounds_toArray, List.set_cons_zero, List.set_cons_succ])
  refine E_call rfl Salg.func13 (by kernel_rfl) (by kernel_rfl) (args := [v]) rfl ?_
  intro w3 K M
  clear K
  have hlt := fun p hp => M.lt (p := p) hp
  refine (HSP.out w3 M.kept).mono ?_
  rintro e w4 ⟨c, va, tv, nv, bv, cu, nvb, bvb, cub, nv2, bv2, rfl, xc, xa, x1, x2, x3, x4, x5, x6, x7, x8, x9, xs, K⟩
  have hw3 := M.kept.size
  have hcw : w.heap.size ≤ c := Nat.le_trans hw3 xs
  have hc3 : c ≠ t3 := fun e => absurd (hlt _ (List.mem_cons_of_mem _ (List.mem_cons_self ..))) (by simp only []; omega)
  have hc4 : c ≠ t4 := fun e => absurd (hlt _ (List.mem_cons_self ..)) (by simp only []; omega)
  have HX := hid (And.intro xc (And.intro xa (And.intro x1 (And.intro x2 (And.intro x3 (And.intro x4 (And.intro x5 (And.intro x6 (And.intro x7 (And.intro x8 x9))))))))))
  replace M := M.call K
  clear K xc xa x1 x2 x3 x4 x5 x6 x7 x8 x9 xs hlt hw3
  refine ⟨_, rfl, trivial, M, ?_⟩
  simp only [Act.put, List.setIfInBounds_toArray, List.set_cons_zero, List.set_cons_succ]
  refine E_call rfl Salg.func35 (by kernel_rfl) (by kernel_rfl) (args := [.pointer (some ⟨c, 0, none⟩), .agg (txP (Value.slice pd n0 cd)).toArray]) rfl ?_
  intro w5 K M
  obtain ⟨xc, xa, x1, x2, x3, x4, x5, x6, x7, x8, x9⟩ := HX.out
  have hc5 := K.row xc (by simp)
  refine (HAP.out c va tv nv bv cu nvb bvb cub nv2 bv2 w5 (lt_of_row hc5) hc5 (xa.kept K) (x1.kept K) (x2.kept K) (x3.kept K) (x4.kept K) (x5.kept K) (x6.kept K) (x7.kept K) (x8.kept K) (x9.kept K) (HDV.out.kept M.kept)).mono ?_
  clear K xa x1 x2 x3 x4 x5 x6 x7 x8 x9 xc HX
  rintro e w6 ⟨ou, U, rfl, xo, K⟩
  have HOU := hid xo
  obtain ⟨o6, ho6⟩ : ∃ o6, w6.heap[c]? = some o6 := ⟨_, Array.getElem?_eq_getElem (Nat.lt_of_lt_of_le (lt_of_row hc5) K.size)⟩
  replace M := M.callNew K hcw hc5 ho6 (by
    intro p hp
    simp only [List.mem_cons, List.not_mem_nil, or_false] at hp
    rcases hp with rfl | rfl
    · exact hc4
    · exact hc3)
  clear K xo hc5 ho6
  refine ⟨_, rfl, trivial, M, ?_⟩
  simp only [Act.put, List.setIfInBounds_toArray, List.set_cons_zero, List.set_cons_succ]
  refine E_nil ?_
  intro w7 K M
  replace HOU := hid (HOU.out.kept K)
  clear K
  refine S_seg 4 5 (by kernel_rfl) (by decide) ?_
  simp only [List.take_succ_cons, List.take_zero, List.drop_zero, List.drop_succ_cons, Nat.sub_zero, Nat.reduceSub]
  have hr4 := M.r0
  have HN : Hid (∀ t l, Obj.cells (rcL (n64 0) nilS).toArray 65 (0, 0) ≠ R8 t l) := not_bytes_at (cs := (rcL (n64 0) nilS).toArray) (tc := 65) (i := 4) (p := none) (n := 0) (m := 0) (by kernel_rfl)
  have HO := hid (rcF_one (u := n64 U) rfl HOU.out.one)
  have HMK := hid M.kept
  clear M
  go_wp2_with ((with_reducible apply W_storeK (b := t4) (vs := (rcF (n64 U) ou).toArray)); rfl; rfl; exact hr4; exact size65; rfl; exact HO.out; intro w8 KT hrt)
  refine S_done ?_
  go_wp2_with fail
  refine ret_cell1 Salg.results25 rfl hrt Salg.underlying65 rfl size65 rfl ?_
  exact ⟨ou, U, rfl, HOU.out.keptC KT hr4 HN.out, HMK.out.newer KT ht4⟩
end Go.Proofs.YgcsalGreat

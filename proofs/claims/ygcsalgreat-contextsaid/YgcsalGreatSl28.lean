/-
  (*yp.State).plain, its effect or its value given, on a frame at an offset.
-/
import Derived.Test.YgcsalGreatSl25
set_option linter.unusedSimpArgs false
set_option linter.unusedVariables false
namespace Go.Own
/-- A row whose writing harms no number. -/
def LightO (o : Obj) : Prop := ∃ cs tx, o = .cells cs tx (0, 0) ∧ tx ≠ 142 ∧ tx ≠ 89 ∧ ∀ (w w2 : World) (x : Nat) (v : Value) (n : Nat), w.heap[x]? = some o → Kept [x] w w2 → NumV w v n → NumV w2 v n
theorem light_chain {cs : Array Value} (h : ∀ t l, Obj.cells cs 119 (0, 0) ≠ R8 t l) : LightO (.cells cs 119 (0, 0)) := ⟨cs, 119, rfl, by decide, by decide, fun w w2 x v n h1 k hn => hn.keptC k h1 h⟩
/-- Digits in their least form do not lie in a row of zeros. -/
theorem NumV.keptZ {w w2 : World} {x : Nat} {v : Value} {n t z : Nat} (hx : w.heap[x]? = some (R8 t (List.replicate z 0))) (k : Kept [x] w w2) (h : NumV w v n) : NumV w2 v n := by
  obtain ⟨ds, ⟨p, c, h1, h2, h3, h4, h5⟩, ht, hv⟩ := h
  refine ⟨ds, ⟨p, c, h1, h2, h3, ?_, h5⟩, ht, hv⟩
  rcases h4 with h4 | ⟨b, t', cs, e1, e2, e3⟩
  · exact .inl h4
  · by_cases hb : b = x
    · subst hb
      rw [hx] at e2
      have e4 : cs = List.replicate z 0 := by
        have h6 := Option.some.inj e2
        simp only [R8, Obj.cells.injEq] at h6
        have h7 : (List.replicate z 0).map n8 = cs.map n8 := congrArg Array.toList h6.1
        refine ((List.map_inj_right (fun a b hab => ?_)).1 h7).symm
        simp only [n8, Value.int.injEq] at hab
        omega
      left
      by_cases hd : ds = []
      · exact hd
      · exfalso
        have hl : ds.getLast hd = 0 := by
          have hm : ds.getLast hd ∈ cs := e3.subset (List.getLast_mem hd)
          rw [e4] at hm
          exact (List.mem_replicate.1 hm).2
        exact ht _ (by rw [List.getLast?_eq_some_getLast hd, hl]) rfl
    · exact .inr ⟨b, t', cs, e1, k.row e2 (by simpa using hb), e3⟩
theorem light_zero (z : Nat) : LightO (R8 5 (List.replicate z 0)) := ⟨_, 5, rfl, by decide, by decide, fun w w2 x v n h1 k hn => NumV.keptZ h1 k hn⟩
end Go.Own
namespace Go.Proofs.YgcsalGreat
open Go.RowKit Go.Own

set_option maxHeartbeats 4000000 in
set_option maxRecDepth 100000 in
theorem plain_sstore (st : Value) (fb q m G A B V : Nat) (fs0 : Array Value) (mv : Value) (ns : List Nat) (w : World) (hF : FrameQ w fb q fs0 m G (ns ++ [B, A]) mv) (hl : ns.length ≤ 30) (hm : m ≤ 1000) (ob : Obj) (Post : World → Prop) (x : Nat) (hx : w.heap[x]? = some ob) (hlo : LightO ob)
    (hE : ∀ w' a b ab (args : Array Value), Kept [] w w' → w'.heap[ab]? = some (.cells args 89 (0, 0)) → args[0]? = some a → args[1]? = some b → NumV w' a A → NumV w' b B → Calls Salg.prog 197 #[st, .pointer (some ⟨fb, q, none⟩), .int .u8 85, .slice (some ⟨ab, 0, none⟩) 2 2] w' fun e w'' => e = .returned (.bool true) ∧ Post w'' ∧ Kept [x] w' w'') :
    Calls Salg.prog 120 #[st, .pointer (some ⟨fb, q, none⟩), .int .u8 85] w fun e w' => ∃ r w1, e = .returned r ∧ Post w1 ∧ Kept [x] w w1 ∧ FrameQ w1 fb q fs0 m G (ns ++ [B, A]) mv ∧ Kept [fb] w1 w' ∧ FrameQ w' fb q fs0 (m + 1) G ns mv := by
  have M := Mem.start w []
  obtain ⟨fs, pv, gv, sv, xs, hr, hsz, hfs, h3, hp, h4, hgv, h8, hs, hxs, hmv⟩ := hF
  have hxl : xs.length = ns.length + 2 := by have := hxs.1; simpa using this
  have hl4 : xs.length ≤ 40 := by omega
  have hlt : 2 ≤ xs.length := by omega
  have HP := hid hp
  have HGV := hid hgv
  have HS := hid hs
  have HXN := hid hxs
  have HFS := hid hfs
  have HSZ0 := hid hsz
  have H1 := hid hxs.one
  have HE := hid hE
  have HLO := hid hlo
  obtain ⟨p, cap, rfl⟩ : ∃ p cap, sv = .slice p xs.length cap := by
    rcases hs with ⟨rfl, rfl⟩ | ⟨g, cap, cur, rfl, _⟩
    · exact ⟨none, 0, rfl⟩
    · exact ⟨_, _, rfl⟩
  have HNB := hid (not_bytes_at (tc := 142) h8)
  have HCT := hid (HS.out.cut (xs.length - 2) (by omega))
  have hcap := HCT.out.1
  have HT : Hid (TightV w 89 (.slice p (xs.length - 2) (xs.length - 2)) (xs.take (xs.length - 2))) := HCT.out.2
  have HA := hid (fun w' (K : Kept [] w w') i (hi : i < xs.length) u hu => arg_q fb q fs _ u xs i w' (K.row hr (by simp)) h8 (HS.out.kept K) hi hu (by omega))
  have HAS := hid (fun i u (hi : i < 2) (hx : i < xs.length) hu => argsL_set (t := 2) (u := u) hi hx hu)
  have HAL := hid (fun i (h : i ≤ xs.length) (hi : i ≤ 2) => argsL_length (t := 2) h hi)
  have HAZ := hid (argsL_zero xs (2))
  have HAA := hid (argsL_all xs (2))
  have hsz8 : q + 8 < fs.size := (Array.getElem?_eq_some_iff.1 h8).1
  have hsz3 : q + 3 < fs.size := (Array.getElem?_eq_some_iff.1 h3).1
  clear hp hs HCT hgv hxs hfs hsz hE hlo
  have HXS : Hid (∀ i, i < xs.length → ∃ u, xs[xs.length - 1 - i]? = some u) := fun i hi => ⟨xs[xs.length - 1 - i], List.getElem?_eq_getElem (by omega)⟩
  have HNV : Hid (∀ i u w', i < xs.length → xs[xs.length - 1 - i]? = some u → Kept [] w w' → ∀ N, (ns ++ [B, A])[ns.length + 2 - 1 - i]? = some N → NumV w' u N) := fun i u w' hi hu K N hN => (HXN.out.2 _ _ _ hu (by rw [hxl]; exact hN)).kept K
  obtain ⟨n, hn⟩ : ∃ n, n = xs.length := ⟨_, rfl⟩
  rw [← hn] at HT HA HAS HAL HXS hcap hl4 hlt h8 HNV hxl
  have HN := hid hn
  have HXL := hid hxl
  clear hn hxl
  go_enter Salg.func120, Salg.ntmps120
  go_wp2_with fail
  refine (arity_sstore _).mono ?_
  rintro e w1 ⟨rfl, hw⟩
  replace hw := hw.symm
  subst hw
  go_wp2_with ((with_reducible apply W_makeV (n := 2) (s := 1) (cs := (List.replicate (2) (.slice none 0 0)).toArray) M); rfl; rfl; (first | rfl | omega); (first | rfl | omega); (first | decide | omega); exact Salg.underlying140; exact info89; rfl; decide; decide; decide; exact range1 _ _ rfl; clear M; intro ab w2 hab hab2 K M; rw [← HAZ.out] at M; clear K; simp only [Act.put, List.setIfInBounds_toArray, List.set_cons_zero, List.set_cons_succ])
  go_loopw [10, 24] (fun _ iv wr => ∃ i : Nat, i ≤ 2 ∧ iv = .int .i64 i ∧ Mem w [] [(ab, .cells (argsL xs i (2)).toArray 89 (0, 0))] wr) (fun _ iv _ => (((2 : Nat) : Int) - intOf iv).toNat)
  case atStart => exact ⟨0, by omega, rfl, M⟩
  case round =>
    clear M
    obtain ⟨i, hi, rfl, M⟩ := hrel
    rcases Nat.lt_or_ge i (2) with hlt2 | hge
    · obtain ⟨u, hu⟩ := HXS.out i (by omega)
      have HAu := hid (HA.out _ M.kept i (by omega) u hu)
      have HAs := HAS.out i u hlt2 (by omega) hu
      have HAl := HAL.out i (by omega) (by omega)
      have hu1 := oneCell_mem H1.out hu
      have hsz3 : i < (argsL xs i (2)).toArray.size := by rw [List.size_toArray, HAl]; exact hlt2
      go_wp2_with fail
      refine (HAu.out).mono ?_
      rintro e w3 ⟨rfl, K⟩
      replace M := M.call K
      clear K
      go_wp2_with ((with_reducible apply W_stV (b := ab) (o := i) (v := u)); rfl; rfl; exact hu1; exact M.r0; exact size89; exact hsz3; intro w4 K hr4; rw [HAs] at hr4; replace M := Mem.callPut (L1 := []) M (Or.inr hab) K hr4; clear K hr4; simp only [List.nil_append] at M)
      go_roundw
      case rel => exact ⟨i + 1, by omega, by go_num, M⟩
      case measure => simp [intOf]; omega
    · have hit : 2 = i := by omega
      subst hit
      clear hge HA HAS HAL
      rw [HAA.out] at M
      have HG := hid (fun i (hi : i < 2) => args_get (t := 2) (i := i) hi (by rw [← HN.out]; exact hlt))
      rw [← HN.out] at HG
      go_wp2_with fail
      refine S_region (by kernel_rfl) ?_
      refine E_stage 0 11 [0, 1, 2, 3, 4, 5, 6, 7, 8, 9, 10] (by kernel_rfl) M.drew ?_
      clear M
      simp only [List.filterMap_cons, List.filterMap_nil, List.getElem?_cons_zero, List.getElem?_cons_succ]
      ((with_reducible apply E_run); rfl; rfl; (intro w M; go_simp; (try go_ints); (try simp only [↓IntWalk.iteOmega]); (try with_reducible rfl)); simp only [Act.put, List.setIfInBounds_toArray, List.set_cons_zero, List.set_cons_succ])
      ((with_reducible apply E_run); rfl; rfl; (intro w M; go_simp; (try go_ints); (try simp only [↓IntWalk.iteOmega]); (try with_reducible rfl)); simp only [Act.put, List.setIfInBounds_toArray, List.set_cons_zero, List.set_cons_succ])
      ((with_reducible apply E_run); rfl; rfl; (intro w M; go_simp; (try go_ints); (try simp only [↓IntWalk.iteOmega]); (try with_reducible rfl)); simp only [Act.put, List.setIfInBounds_toArray, List.set_cons_zero, List.set_cons_succ])
      ((with_reducible apply E_run); rfl; rfl; (intro w M; exact run_loadCell (M.kept.row hr (by simp)) rfl h3 Salg.underlying89 rfl); simp only [Act.put, List.setIfInBounds_toArray, List.set_cons_zero, List.set_cons_succ])
      ((with_reducible apply E_run); rfl; rfl; (intro w M; go_simp; (try go_ints); (try simp only [↓IntWalk.iteOmega]); (try with_reducible rfl)); simp only [Act.put, List.setIfInBounds_toArray, List.set_cons_zero, List.set_cons_succ])
      refine E_call rfl Salg.func195 (by kernel_rfl) (by kernel_rfl) (args := [.int .u8 (85 : Int)]) rfl ?_
      intro w1 K M
      clear K
      refine (imm_other 85 _ (by decide)).mono ?_
      rintro e w4 ⟨rfl, hw⟩
      replace hw := hw.symm
      subst hw
      refine ⟨_, rfl, trivial, M, ?_⟩
      simp only [Act.put, List.setIfInBounds_toArray, List.set_cons_zero, List.set_cons_succ]
      ((with_reducible apply E_run); rfl; rfl; (intro w M; go_simp; (try go_ints); (try simp only [↓IntWalk.iteOmega]); (try with_reducible rfl)); simp only [Act.put, List.setIfInBounds_toArray, List.set_cons_zero, List.set_cons_succ])
      ((with_reducible apply E_run); rfl; rfl; (intro w M; go_simp; (try go_ints); (try simp only [↓IntWalk.iteOmega]); (try with_reducible rfl)); simp only [Act.put, List.setIfInBounds_toArray, List.set_cons_zero, List.set_cons_succ])
      refine E_call rfl Salg.func87 (by kernel_rfl) (by kernel_rfl) (args := [.int .u64 (((1 + 0 : Nat)) : Int)]) rfl ?_
      intro w1 K M
      clear K
      refine (num_int _ (1 + 0) (by rfl) (by omega) _).mono ?_
      rintro e w5 ⟨r1, rfl, xHR1, K⟩
      have HR1 := hid xHR1
      clear xHR1
      replace M := M.call K
      refine ⟨_, rfl, trivial, M, ?_⟩
      clear K
      simp only [Act.put, List.setIfInBounds_toArray, List.set_cons_zero, List.set_cons_succ]
      refine E_call rfl Salg.func68 (by kernel_rfl) (by kernel_rfl) (args := [pv, r1]) rfl ?_
      intro w1 K M
      replace HR1 := hid (HR1.out.kept K)
      clear K
      refine (add_num _ _ _ _ _ (HP.out.kept M.kept) HR1.out (by omega) (by omega)).mono ?_
      rintro e w6 ⟨r2, rfl, xHR2, K⟩
      have HR2 := hid xHR2
      clear xHR2
      replace HR1 := hid (HR1.out.kept K)
      replace M := M.call K
      refine ⟨_, rfl, trivial, M, ?_⟩
      clear K
      simp only [Act.put, List.setIfInBounds_toArray, List.set_cons_zero, List.set_cons_succ]
      ((with_reducible apply E_run); rfl; rfl; (intro w M; go_simp; (try go_ints); (try simp only [↓IntWalk.iteOmega]); (try with_reducible rfl)); simp only [Act.put, List.setIfInBounds_toArray, List.set_cons_zero, List.set_cons_succ])
      refine E_nil ?_
      intro w9 K M
      replace HR2 := hid (HR2.out.kept K)
      clear K
      refine S_done ?_
      go_wp2_with fail
      refine S_region (by kernel_rfl) ?_
      replace HR2 := hid (HR2.out.kept (Kept.refl [] _).drew)
      refine E_stage 0 20 [0, 1, 2, 3, 4, 5, 6, 7, 8, 9, 10, 11, 12, 13, 14, 15, 16, 17, 18, 19] (by kernel_rfl) M.drew ?_
      clear M
      simp only [List.filterMap_cons, List.filterMap_nil, List.getElem?_cons_zero, List.getElem?_cons_succ]
      ((with_reducible apply E_run); rfl; rfl; (intro w M; go_simp; (try go_ints); (try simp only [↓IntWalk.iteOmega]); (try with_reducible rfl)); simp only [Act.put, List.setIfInBounds_toArray, List.set_cons_zero, List.set_cons_succ])
      ((with_reducible apply E_run); rfl; rfl; (intro w M; go_simp; (try go_ints); (try simp only [↓IntWalk.iteOmega]); (try with_reducible rfl)); simp only [Act.put, List.setIfInBounds_toArray, List.set_cons_zero, List.set_cons_succ])
      ((with_reducible apply E_run); rfl; rfl; (intro w M; go_simp; (try go_ints); (try simp only [↓IntWalk.iteOmega]); (try with_reducible rfl)); simp only [Act.put, List.setIfInBounds_toArray, List.set_cons_zero, List.set_cons_succ])
      ((with_reducible apply E_run); rfl; rfl; (intro w M; exact run_loadCell (M.kept.row hr (by simp)) rfl h8 Salg.underlying140 rfl); simp only [Act.put, List.setIfInBounds_toArray, List.set_cons_zero, List.set_cons_succ])
      ((with_reducible apply E_run); rfl; rfl; (intro w M; go_simp; (try go_ints); (try simp only [↓IntWalk.iteOmega]); (try with_reducible rfl)); simp only [Act.put, List.setIfInBounds_toArray, List.set_cons_zero, List.set_cons_succ])
      ((with_reducible apply E_run); rfl; rfl; (intro w M; go_simp; (try go_ints); (try simp only [↓IntWalk.iteOmega]); (try with_reducible rfl)); simp only [Act.put, List.setIfInBounds_toArray, List.set_cons_zero, List.set_cons_succ])
      ((with_reducible apply E_run); rfl; rfl; (intro w M; go_simp; (try go_ints); (try simp only [↓IntWalk.iteOmega]); (try with_reducible rfl)); simp only [Act.put, List.setIfInBounds_toArray, List.set_cons_zero, List.set_cons_succ])
      ((with_reducible apply E_run); rfl; rfl; (intro w M; exact run_loadCell (M.kept.row hr (by simp)) rfl h8 Salg.underlying140 rfl); simp only [Act.put, List.setIfInBounds_toArray, List.set_cons_zero, List.set_cons_succ])
      ((with_reducible apply E_run); rfl; rfl; (intro w M; go_simp; (try go_ints); (try simp only [↓IntWalk.iteOmega]); (try with_reducible rfl)); simp only [Act.put, List.setIfInBounds_toArray, List.set_cons_zero, List.set_cons_succ])
      ((with_reducible apply E_run); rfl; rfl; (intro w M; go_simp; (try go_ints); (try simp only [↓IntWalk.iteOmega]); (try with_reducible rfl)); simp only [Act.put, List.setIfInBounds_toArray, List.set_cons_zero, List.set_cons_succ])
      ((with_reducible apply E_run); rfl; rfl; (intro w M; go_simp; (try go_ints); (try simp only [↓IntWalk.iteOmega]); (try with_reducible rfl)); simp only [Act.put, List.setIfInBounds_toArray, List.set_cons_zero, List.set_cons_succ])
      ((with_reducible apply E_run); rfl; rfl; (intro w M; go_simp; (try go_ints); (try simp only [↓IntWalk.iteOmega]); (try with_reducible rfl)); simp only [Act.put, List.setIfInBounds_toArray, List.set_cons_zero, List.set_cons_succ])
      ((with_reducible apply E_run); rfl; rfl; (intro w M; go_simp; (try go_ints); (try simp only [↓IntWalk.iteOmega]); (try with_reducible rfl)); simp only [Act.put, List.setIfInBounds_toArray, List.set_cons_zero, List.set_cons_succ])
      ((with_reducible apply E_run); rfl; rfl; (intro w M; go_simp; (try go_ints); (try simp only [↓IntWalk.iteOmega]); (try with_reducible rfl)); simp only [Act.put, List.setIfInBounds_toArray, List.set_cons_zero, List.set_cons_succ])
      ((with_reducible apply E_run); rfl; rfl; (intro w M; exact run_loadCell (M.kept.row hr (by simp)) rfl h8 Salg.underlying140 rfl); simp only [Act.put, List.setIfInBounds_toArray, List.set_cons_zero, List.set_cons_succ])
      ((with_reducible apply E_run); rfl; rfl; (intro w M; go_simp; (try go_ints); (try simp only [↓IntWalk.iteOmega]); (try with_reducible rfl)); simp only [Act.put, List.setIfInBounds_toArray, List.set_cons_zero, List.set_cons_succ])
      ((with_reducible apply E_run); rfl; rfl; (intro w M; go_simp; (try go_ints); (try simp only [↓IntWalk.iteOmega]); (try with_reducible rfl)); simp only [Act.put, List.setIfInBounds_toArray, List.set_cons_zero, List.set_cons_succ])
      ((with_reducible apply E_run); rfl; rfl; (intro w M; go_simp; (try go_ints); (try simp only [↓IntWalk.iteOmega]); (try with_reducible rfl)); simp only [Act.put, List.setIfInBounds_toArray, List.set_cons_zero, List.set_cons_succ])
      ((with_reducible apply E_run); rfl; rfl; (intro w M; exact run_slice3 (n := n - 2) rfl rfl rfl (by omega) (by omega) Salg.underlying140 ⟨1, size89⟩ hcap); simp only [Act.put, List.setIfInBounds_toArray, List.set_cons_zero, List.set_cons_succ])
      ((with_reducible apply E_run); rfl; rfl; (intro w M; go_simp; (try go_ints); (try simp only [↓IntWalk.iteOmega]); (try with_reducible rfl)); simp only [Act.put, List.setIfInBounds_toArray, List.set_cons_zero, List.set_cons_succ])
      refine E_nil ?_
      intro w10 K M
      replace HR2 := hid (HR2.out.kept K)
      clear K
      refine S_done ?_
      go_wp2_with fail
      obtain ⟨a, ha⟩ := HXS.out 0 (by omega)
      have Na := hid (HNV.out 0 a _ (by omega) ha M.kept A (by simp))
      have Ga := (HG.out 0 (by decide)).trans ha
      obtain ⟨b, hb⟩ := HXS.out 1 (by omega)
      have Nb := hid (HNV.out 1 b _ (by omega) hb M.kept B (by simp))
      have Gb := (HG.out 1 (by decide)).trans hb
      refine (HE.out _ a b ab _ M.kept M.r0 (by simpa using Ga) (by simpa using Gb) Na.out Nb.out).mono ?_
      rintro e w11 ⟨rfl, xP, K⟩
      have HPO := hid xP
      obtain ⟨csx, tx, rfl, t1, t2, hlx⟩ := HLO.out
      have hxw := M.kept.row hx (by simp)
      have hrow : w11.heap[fb]? = some (.cells fs 142 (0, 0)) := K.row (M.kept.row hr (by simp)) (row_ne hxw (M.kept.row hr (by simp)) (by rintro h; cases h; exact t1 rfl))
      have HR3 := hid (hlx _ _ _ _ _ hxw K HR2.out)
      have HTR : Hid (RowV w11 89 (.slice p (n - 2) (n - 2)) (xs.take (n - 2))) := (HT.out.kept M.kept).row.keptC K hxw t2
      have HNX : Hid (NumsV w11 xs (ns ++ [B, A])) := ⟨HXN.out.1, fun k v N e1 e2 => hlx _ _ _ _ _ hxw K ((HXN.out.2 k v N e1 e2).kept M.kept)⟩
      have HGV2 := hid (hlx _ _ _ _ _ hxw K (HGV.out.kept M.kept))
      have HF1 : Hid (FrameQ w11 fb q fs0 m G (ns ++ [B, A]) mv) := ⟨fs, pv, gv, .slice p n cap, xs, hrow, HSZ0.out, HFS.out, h3, hlx _ _ _ _ _ hxw K (HP.out.kept M.kept), h4, hlx _ _ _ _ _ hxw K (HGV.out.kept M.kept), h8, (HN.out ▸ HS.out.kept M.kept).keptC K hxw t2, ⟨HXN.out.1, fun k v N e1 e2 => hlx _ _ _ _ _ hxw K ((HXN.out.2 k v N e1 e2).kept M.kept)⟩, hmv⟩
      have HKX := hid ((M.kept.mono (by simp)).trans K : Kept [x] w w11)
      have M2 := Mem.start w11 []
      clear M K xP hlx hxw
      have HVV := HTR
      go_wp2_with (first
        | ((with_reducible apply W_stV (b := fb) (o := q + 8) (v := (Value.slice p (n - 2) (n - 2)))); rfl; rfl; exact HVV.out.one; exact hrow; exact size140; exact hsz8; intro w21 K1 hr11)
        | ((with_reducible apply W_stV (b := fb) (o := q + 3) (v := r2)); rfl; rfl; exact HR3.out.one; exact hr11; exact size89; (simp; omega); intro w22 K2 hr12))
      go_end0
      have KK := K1.trans K2
      have HNS : Hid (NumsV w22 (xs.take (n - 2)) ns) := by
        have e1 := HNX.out
        have e2 := (e1.keptC KK hrow HNB.out).take ns.length
        rw [List.take_left] at e2
        rw [show n - 2 = ns.length by have := HXL.out; omega]
        exact e2
      exact ⟨_, w11, rfl, HPO.out, HKX.out, HF1.out, KK, ⟨_, r2, gv, (Value.slice p (n - 2) (n - 2)), xs.take (n - 2), hr12, by simp only [Array.size_setIfInBounds]; exact HSZ0.out, fun k k3 k4 k8 k9 => by rw [Array.getElem?_setIfInBounds_ne (by omega), Array.getElem?_setIfInBounds_ne (by omega)]; exact HFS.out k k3 k4 k8 k9, Array.getElem?_setIfInBounds_self_of_lt (by simp; omega), HR3.out.keptC KK hrow HNB.out, by rw [Array.getElem?_setIfInBounds_ne (by omega), Array.getElem?_setIfInBounds_ne (by omega)]; exact h4, HGV2.out.keptC KK hrow HNB.out, by rw [Array.getElem?_setIfInBounds_ne (by omega), Array.getElem?_setIfInBounds_self_of_lt hsz8], HVV.out.keptC KK hrow (by decide), HNS.out, by rw [Array.getElem?_setIfInBounds_ne (by omega), Array.getElem?_setIfInBounds_ne (by omega)]; exact hmv⟩⟩

set_option maxHeartbeats 4000000 in
set_option maxRecDepth 100000 in
theorem plain_mstore (st : Value) (fb q m G A B V : Nat) (fs0 : Array Value) (mv : Value) (ns : List Nat) (w : World) (hF : FrameQ w fb q fs0 m G (ns ++ [B, A]) mv) (hl : ns.length ≤ 30) (hm : m ≤ 1000) (ob : Obj) (Post : World → Prop) (x : Nat) (hx : w.heap[x]? = some ob) (hlo : LightO ob)
    (hE : ∀ w' a b ab (args : Array Value), Kept [] w w' → w'.heap[ab]? = some (.cells args 89 (0, 0)) → args[0]? = some a → args[1]? = some b → NumV w' a A → NumV w' b B → Calls Salg.prog 197 #[st, .pointer (some ⟨fb, q, none⟩), .int .u8 82, .slice (some ⟨ab, 0, none⟩) 2 2] w' fun e w'' => e = .returned (.bool true) ∧ Post w'' ∧ Kept [x] w' w'') :
    Calls Salg.prog 120 #[st, .pointer (some ⟨fb, q, none⟩), .int .u8 82] w fun e w' => ∃ r w1, e = .returned r ∧ Post w1 ∧ Kept [x] w w1 ∧ FrameQ w1 fb q fs0 m G (ns ++ [B, A]) mv ∧ Kept [fb] w1 w' ∧ FrameQ w' fb q fs0 (m + 1) G ns mv := by
  have M := Mem.start w []
  obtain ⟨fs, pv, gv, sv, xs, hr, hsz, hfs, h3, hp, h4, hgv, h8, hs, hxs, hmv⟩ := hF
  have hxl : xs.length = ns.length + 2 := by have := hxs.1; simpa using this
  have hl4 : xs.length ≤ 40 := by omega
  have hlt : 2 ≤ xs.length := by omega
  have HP := hid hp
  have HGV := hid hgv
  have HS := hid hs
  have HXN := hid hxs
  have HFS := hid hfs
  have HSZ0 := hid hsz
  have H1 := hid hxs.one
  have HE := hid hE
  have HLO := hid hlo
  obtain ⟨p, cap, rfl⟩ : ∃ p cap, sv = .slice p xs.length cap := by
    rcases hs with ⟨rfl, rfl⟩ | ⟨g, cap, cur, rfl, _⟩
    · exact ⟨none, 0, rfl⟩
    · exact ⟨_, _, rfl⟩
  have HNB := hid (not_bytes_at (tc := 142) h8)
  have HCT := hid (HS.out.cut (xs.length - 2) (by omega))
  have hcap := HCT.out.1
  have HT : Hid (TightV w 89 (.slice p (xs.length - 2) (xs.length - 2)) (xs.take (xs.length - 2))) := HCT.out.2
  have HA := hid (fun w' (K : Kept [] w w') i (hi : i < xs.length) u hu => arg_q fb q fs _ u xs i w' (K.row hr (by simp)) h8 (HS.out.kept K) hi hu (by omega))
  have HAS := hid (fun i u (hi : i < 2) (hx : i < xs.length) hu => argsL_set (t := 2) (u := u) hi hx hu)
  have HAL := hid (fun i (h : i ≤ xs.length) (hi : i ≤ 2) => argsL_length (t := 2) h hi)
  have HAZ := hid (argsL_zero xs (2))
  have HAA := hid (argsL_all xs (2))
  have hsz8 : q + 8 < fs.size := (Array.getElem?_eq_some_iff.1 h8).1
  have hsz3 : q + 3 < fs.size := (Array.getElem?_eq_some_iff.1 h3).1
  clear hp hs HCT hgv hxs hfs hsz hE hlo
  have HXS : Hid (∀ i, i < xs.length → ∃ u, xs[xs.length - 1 - i]? = some u) := fun i hi => ⟨xs[xs.length - 1 - i], List.getElem?_eq_getElem (by omega)⟩
  have HNV : Hid (∀ i u w', i < xs.length → xs[xs.length - 1 - i]? = some u → Kept [] w w' → ∀ N, (ns ++ [B, A])[ns.length + 2 - 1 - i]? = some N → NumV w' u N) := fun i u w' hi hu K N hN => (HXN.out.2 _ _ _ hu (by rw [hxl]; exact hN)).kept K
  obtain ⟨n, hn⟩ : ∃ n, n = xs.length := ⟨_, rfl⟩
  rw [← hn] at HT HA HAS HAL HXS hcap hl4 hlt h8 HNV hxl
  have HN := hid hn
  have HXL := hid hxl
  clear hn hxl
  go_enter Salg.func120, Salg.ntmps120
  go_wp2_with fail
  refine (arity_mstore _).mono ?_
  rintro e w1 ⟨rfl, hw⟩
  replace hw := hw.symm
  subst hw
  go_wp2_with ((with_reducible apply W_makeV (n := 2) (s := 1) (cs := (List.replicate (2) (.slice none 0 0)).toArray) M); rfl; rfl; (first | rfl | omega); (first | rfl | omega); (first | decide | omega); exact Salg.underlying140; exact info89; rfl; decide; decide; decide; exact range1 _ _ rfl; clear M; intro ab w2 hab hab2 K M; rw [← HAZ.out] at M; clear K; simp only [Act.put, List.setIfInBounds_toArray, List.set_cons_zero, List.set_cons_succ])
  go_loopw [10, 24] (fun _ iv wr => ∃ i : Nat, i ≤ 2 ∧ iv = .int .i64 i ∧ Mem w [] [(ab, .cells (argsL xs i (2)).toArray 89 (0, 0))] wr) (fun _ iv _ => (((2 : Nat) : Int) - intOf iv).toNat)
  case atStart => exact ⟨0, by omega, rfl, M⟩
  case round =>
    clear M
    obtain ⟨i, hi, rfl, M⟩ := hrel
    rcases Nat.lt_or_ge i (2) with hlt2 | hge
    · obtain ⟨u, hu⟩ := HXS.out i (by omega)
      have HAu := hid (HA.out _ M.kept i (by omega) u hu)
      have HAs := HAS.out i u hlt2 (by omega) hu
      have HAl := HAL.out i (by omega) (by omega)
      have hu1 := oneCell_mem H1.out hu
      have hsz3 : i < (argsL xs i (2)).toArray.size := by rw [List.size_toArray, HAl]; exact hlt2
      go_wp2_with fail
      refine (HAu.out).mono ?_
      rintro e w3 ⟨rfl, K⟩
      replace M := M.call K
      clear K
      go_wp2_with ((with_reducible apply W_stV (b := ab) (o := i) (v := u)); rfl; rfl; exact hu1; exact M.r0; exact size89; exact hsz3; intro w4 K hr4; rw [HAs] at hr4; replace M := Mem.callPut (L1 := []) M (Or.inr hab) K hr4; clear K hr4; simp only [List.nil_append] at M)
      go_roundw
      case rel => exact ⟨i + 1, by omega, by go_num, M⟩
      case measure => simp [intOf]; omega
    · have hit : 2 = i := by omega
      subst hit
      clear hge HA HAS HAL
      rw [HAA.out] at M
      have HG := hid (fun i (hi : i < 2) => args_get (t := 2) (i := i) hi (by rw [← HN.out]; exact hlt))
      rw [← HN.out] at HG
      go_wp2_with fail
      refine S_region (by kernel_rfl) ?_
      refine E_stage 0 11 [0, 1, 2, 3, 4, 5, 6, 7, 8, 9, 10] (by kernel_rfl) M.drew ?_
      clear M
      simp only [List.filterMap_cons, List.filterMap_nil, List.getElem?_cons_zero, List.getElem?_cons_succ]
      ((with_reducible apply E_run); rfl; rfl; (intro w M; go_simp; (try go_ints); (try simp only [↓IntWalk.iteOmega]); (try with_reducible rfl)); simp only [Act.put, List.setIfInBounds_toArray, List.set_cons_zero, List.set_cons_succ])
      ((with_reducible apply E_run); rfl; rfl; (intro w M; go_simp; (try go_ints); (try simp only [↓IntWalk.iteOmega]); (try with_reducible rfl)); simp only [Act.put, List.setIfInBounds_toArray, List.set_cons_zero, List.set_cons_succ])
      ((with_reducible apply E_run); rfl; rfl; (intro w M; go_simp; (try go_ints); (try simp only [↓IntWalk.iteOmega]); (try with_reducible rfl)); simp only [Act.put, List.setIfInBounds_toArray, List.set_cons_zero, List.set_cons_succ])
      ((with_reducible apply E_run); rfl; rfl; (intro w M; exact run_loadCell (M.kept.row hr (by simp)) rfl h3 Salg.underlying89 rfl); simp only [Act.put, List.setIfInBounds_toArray, List.set_cons_zero, List.set_cons_succ])
      ((with_reducible apply E_run); rfl; rfl; (intro w M; go_simp; (try go_ints); (try simp only [↓IntWalk.iteOmega]); (try with_reducible rfl)); simp only [Act.put, List.setIfInBounds_toArray, List.set_cons_zero, List.set_cons_succ])
      refine E_call rfl Salg.func195 (by kernel_rfl) (by kernel_rfl) (args := [.int .u8 (82 : Int)]) rfl ?_
      intro w1 K M
      clear K
      refine (imm_other 82 _ (by decide)).mono ?_
      rintro e w4 ⟨rfl, hw⟩
      replace hw := hw.symm
      subst hw
      refine ⟨_, rfl, trivial, M, ?_⟩
      simp only [Act.put, List.setIfInBounds_toArray, List.set_cons_zero, List.set_cons_succ]
      ((with_reducible apply E_run); rfl; rfl; (intro w M; go_simp; (try go_ints); (try simp only [↓IntWalk.iteOmega]); (try with_reducible rfl)); simp only [Act.put, List.setIfInBounds_toArray, List.set_cons_zero, List.set_cons_succ])
      ((with_reducible apply E_run); rfl; rfl; (intro w M; go_simp; (try go_ints); (try simp only [↓IntWalk.iteOmega]); (try with_reducible rfl)); simp only [Act.put, List.setIfInBounds_toArray, List.set_cons_zero, List.set_cons_succ])
      refine E_call rfl Salg.func87 (by kernel_rfl) (by kernel_rfl) (args := [.int .u64 (((1 + 0 : Nat)) : Int)]) rfl ?_
      intro w1 K M
      clear K
      refine (num_int _ (1 + 0) (by rfl) (by omega) _).mono ?_
      rintro e w5 ⟨r1, rfl, xHR1, K⟩
      have HR1 := hid xHR1
      clear xHR1
      replace M := M.call K
      refine ⟨_, rfl, trivial, M, ?_⟩
      clear K
      simp only [Act.put, List.setIfInBounds_toArray, List.set_cons_zero, List.set_cons_succ]
      refine E_call rfl Salg.func68 (by kernel_rfl) (by kernel_rfl) (args := [pv, r1]) rfl ?_
      intro w1 K M
      replace HR1 := hid (HR1.out.kept K)
      clear K
      refine (add_num _ _ _ _ _ (HP.out.kept M.kept) HR1.out (by omega) (by omega)).mono ?_
      rintro e w6 ⟨r2, rfl, xHR2, K⟩
      have HR2 := hid xHR2
      clear xHR2
      replace HR1 := hid (HR1.out.kept K)
      replace M := M.call K
      refine ⟨_, rfl, trivial, M, ?_⟩
      clear K
      simp only [Act.put, List.setIfInBounds_toArray, List.set_cons_zero, List.set_cons_succ]
      ((with_reducible apply E_run); rfl; rfl; (intro w M; go_simp; (try go_ints); (try simp only [↓IntWalk.iteOmega]); (try with_reducible rfl)); simp only [Act.put, List.setIfInBounds_toArray, List.set_cons_zero, List.set_cons_succ])
      refine E_nil ?_
      intro w9 K M
      replace HR2 := hid (HR2.out.kept K)
      clear K
      refine S_done ?_
      go_wp2_with fail
      refine S_region (by kernel_rfl) ?_
      replace HR2 := hid (HR2.out.kept (Kept.refl [] _).drew)
      refine E_stage 0 20 [0, 1, 2, 3, 4, 5, 6, 7, 8, 9, 10, 11, 12, 13, 14, 15, 16, 17, 18, 19] (by kernel_rfl) M.drew ?_
      clear M
      simp only [List.filterMap_cons, List.filterMap_nil, List.getElem?_cons_zero, List.getElem?_cons_succ]
      ((with_reducible apply E_run); rfl; rfl; (intro w M; go_simp; (try go_ints); (try simp only [↓IntWalk.iteOmega]); (try with_reducible rfl)); simp only [Act.put, List.setIfInBounds_toArray, List.set_cons_zero, List.set_cons_succ])
      ((with_reducible apply E_run); rfl; rfl; (intro w M; go_simp; (try go_ints); (try simp only [↓IntWalk.iteOmega]); (try with_reducible rfl)); simp only [Act.put, List.setIfInBounds_toArray, List.set_cons_zero, List.set_cons_succ])
      ((with_reducible apply E_run); rfl; rfl; (intro w M; go_simp; (try go_ints); (try simp only [↓IntWalk.iteOmega]); (try with_reducible rfl)); simp only [Act.put, List.setIfInBounds_toArray, List.set_cons_zero, List.set_cons_succ])
      ((with_reducible apply E_run); rfl; rfl; (intro w M; exact run_loadCell (M.kept.row hr (by simp)) rfl h8 Salg.underlying140 rfl); simp only [Act.put, List.setIfInBounds_toArray, List.set_cons_zero, List.set_cons_succ])
      ((with_reducible apply E_run); rfl; rfl; (intro w M; go_simp; (try go_ints); (try simp only [↓IntWalk.iteOmega]); (try with_reducible rfl)); simp only [Act.put, List.setIfInBounds_toArray, List.set_cons_zero, List.set_cons_succ])
      ((with_reducible apply E_run); rfl; rfl; (intro w M; go_simp; (try go_ints); (try simp only [↓IntWalk.iteOmega]); (try with_reducible rfl)); simp only [Act.put, List.setIfInBounds_toArray, List.set_cons_zero, List.set_cons_succ])
      ((with_reducible apply E_run); rfl; rfl; (intro w M; go_simp; (try go_ints); (try simp only [↓IntWalk.iteOmega]); (try with_reducible rfl)); simp only [Act.put, List.setIfInBounds_toArray, List.set_cons_zero, List.set_cons_succ])
      ((with_reducible apply E_run); rfl; rfl; (intro w M; exact run_loadCell (M.kept.row hr (by simp)) rfl h8 Salg.underlying140 rfl); simp only [Act.put, List.setIfInBounds_toArray, List.set_cons_zero, List.set_cons_succ])
      ((with_reducible apply E_run); rfl; rfl; (intro w M; go_simp; (try go_ints); (try simp only [↓IntWalk.iteOmega]); (try with_reducible rfl)); simp only [Act.put, List.setIfInBounds_toArray, List.set_cons_zero, List.set_cons_succ])
      ((with_reducible apply E_run); rfl; rfl; (intro w M; go_simp; (try go_ints); (try simp only [↓IntWalk.iteOmega]); (try with_reducible rfl)); simp only [Act.put, List.setIfInBounds_toArray, List.set_cons_zero, List.set_cons_succ])
      ((with_reducible apply E_run); rfl; rfl; (intro w M; go_simp; (try go_ints); (try simp only [↓IntWalk.iteOmega]); (try with_reducible rfl)); simp only [Act.put, List.setIfInBounds_toArray, List.set_cons_zero, List.set_cons_succ])
      ((with_reducible apply E_run); rfl; rfl; (intro w M; go_simp; (try go_ints); (try simp only [↓IntWalk.iteOmega]); (try with_reducible rfl)); simp only [Act.put, List.setIfInBounds_toArray, List.set_cons_zero, List.set_cons_succ])
      ((with_reducible apply E_run); rfl; rfl; (intro w M; go_simp; (try go_ints); (try simp only [↓IntWalk.iteOmega]); (try with_reducible rfl)); simp only [Act.put, List.setIfInBounds_toArray, List.set_cons_zero, List.set_cons_succ])
      ((with_reducible apply E_run); rfl; rfl; (intro w M; go_simp; (try go_ints); (try simp only [↓IntWalk.iteOmega]); (try with_reducible rfl)); simp only [Act.put, List.setIfInBounds_toArray, List.set_cons_zero, List.set_cons_succ])
      ((with_reducible apply E_run); rfl; rfl; (intro w M; exact run_loadCell (M.kept.row hr (by simp)) rfl h8 Salg.underlying140 rfl); simp only [Act.put, List.setIfInBounds_toArray, List.set_cons_zero, List.set_cons_succ])
      ((with_reducible apply E_run); rfl; rfl; (intro w M; go_simp; (try go_ints); (try simp only [↓IntWalk.iteOmega]); (try with_reducible rfl)); simp only [Act.put, List.setIfInBounds_toArray, List.set_cons_zero, List.set_cons_succ])
      ((with_reducible apply E_run); rfl; rfl; (intro w M; go_simp; (try go_ints); (try simp only [↓IntWalk.iteOmega]); (try with_reducible rfl)); simp only [Act.put, List.setIfInBounds_toArray, List.set_cons_zero, List.set_cons_succ])
      ((with_reducible apply E_run); rfl; rfl; (intro w M; go_simp; (try go_ints); (try simp only [↓IntWalk.iteOmega]); (try with_reducible rfl)); simp only [Act.put, List.setIfInBounds_toArray, List.set_cons_zero, List.set_cons_succ])
      ((with_reducible apply E_run); rfl; rfl; (intro w M; exact run_slice3 (n := n - 2) rfl rfl rfl (by omega) (by omega) Salg.underlying140 ⟨1, size89⟩ hcap); simp only [Act.put, List.setIfInBounds_toArray, List.set_cons_zero, List.set_cons_succ])
      ((with_reducible apply E_run); rfl; rfl; (intro w M; go_simp; (try go_ints); (try simp only [↓IntWalk.iteOmega]); (try with_reducible rfl)); simp only [Act.put, List.setIfInBounds_toArray, List.set_cons_zero, List.set_cons_succ])
      refine E_nil ?_
      intro w10 K M
      replace HR2 := hid (HR2.out.kept K)
      clear K
      refine S_done ?_
      go_wp2_with fail
      obtain ⟨a, ha⟩ := HXS.out 0 (by omega)
      have Na := hid (HNV.out 0 a _ (by omega) ha M.kept A (by simp))
      have Ga := (HG.out 0 (by decide)).trans ha
      obtain ⟨b, hb⟩ := HXS.out 1 (by omega)
      have Nb := hid (HNV.out 1 b _ (by omega) hb M.kept B (by simp))
      have Gb := (HG.out 1 (by decide)).trans hb
      refine (HE.out _ a b ab _ M.kept M.r0 (by simpa using Ga) (by simpa using Gb) Na.out Nb.out).mono ?_
      rintro e w11 ⟨rfl, xP, K⟩
      have HPO := hid xP
      obtain ⟨csx, tx, rfl, t1, t2, hlx⟩ := HLO.out
      have hxw := M.kept.row hx (by simp)
      have hrow : w11.heap[fb]? = some (.cells fs 142 (0, 0)) := K.row (M.kept.row hr (by simp)) (row_ne hxw (M.kept.row hr (by simp)) (by rintro h; cases h; exact t1 rfl))
      have HR3 := hid (hlx _ _ _ _ _ hxw K HR2.out)
      have HTR : Hid (RowV w11 89 (.slice p (n - 2) (n - 2)) (xs.take (n - 2))) := (HT.out.kept M.kept).row.keptC K hxw t2
      have HNX : Hid (NumsV w11 xs (ns ++ [B, A])) := ⟨HXN.out.1, fun k v N e1 e2 => hlx _ _ _ _ _ hxw K ((HXN.out.2 k v N e1 e2).kept M.kept)⟩
      have HGV2 := hid (hlx _ _ _ _ _ hxw K (HGV.out.kept M.kept))
      have HF1 : Hid (FrameQ w11 fb q fs0 m G (ns ++ [B, A]) mv) := ⟨fs, pv, gv, .slice p n cap, xs, hrow, HSZ0.out, HFS.out, h3, hlx _ _ _ _ _ hxw K (HP.out.kept M.kept), h4, hlx _ _ _ _ _ hxw K (HGV.out.kept M.kept), h8, (HN.out ▸ HS.out.kept M.kept).keptC K hxw t2, ⟨HXN.out.1, fun k v N e1 e2 => hlx _ _ _ _ _ hxw K ((HXN.out.2 k v N e1 e2).kept M.kept)⟩, hmv⟩
      have HKX := hid ((M.kept.mono (by simp)).trans K : Kept [x] w w11)
      have M2 := Mem.start w11 []
      clear M K xP hlx hxw
      have HVV := HTR
      go_wp2_with (first
        | ((with_reducible apply W_stV (b := fb) (o := q + 8) (v := (Value.slice p (n - 2) (n - 2)))); rfl; rfl; exact HVV.out.one; exact hrow; exact size140; exact hsz8; intro w21 K1 hr11)
        | ((with_reducible apply W_stV (b := fb) (o := q + 3) (v := r2)); rfl; rfl; exact HR3.out.one; exact hr11; exact size89; (simp; omega); intro w22 K2 hr12))
      go_end0
      have KK := K1.trans K2
      have HNS : Hid (NumsV w22 (xs.take (n - 2)) ns) := by
        have e1 := HNX.out
        have e2 := (e1.keptC KK hrow HNB.out).take ns.length
        rw [List.take_left] at e2
        rw [show n - 2 = ns.length by have := HXL.out; omega]
        exact e2
      exact ⟨_, w11, rfl, HPO.out, HKX.out, HF1.out, KK, ⟨_, r2, gv, (Value.slice p (n - 2) (n - 2)), xs.take (n - 2), hr12, by simp only [Array.size_setIfInBounds]; exact HSZ0.out, fun k k3 k4 k8 k9 => by rw [Array.getElem?_setIfInBounds_ne (by omega), Array.getElem?_setIfInBounds_ne (by omega)]; exact HFS.out k k3 k4 k8 k9, Array.getElem?_setIfInBounds_self_of_lt (by simp; omega), HR3.out.keptC KK hrow HNB.out, by rw [Array.getElem?_setIfInBounds_ne (by omega), Array.getElem?_setIfInBounds_ne (by omega)]; exact h4, HGV2.out.keptC KK hrow HNB.out, by rw [Array.getElem?_setIfInBounds_ne (by omega), Array.getElem?_setIfInBounds_self_of_lt hsz8], HVV.out.keptC KK hrow (by decide), HNS.out, by rw [Array.getElem?_setIfInBounds_ne (by omega), Array.getElem?_setIfInBounds_ne (by omega)]; exact hmv⟩⟩

set_option maxHeartbeats 4000000 in
set_option maxRecDepth 100000 in
theorem plain_sload (st : Value) (fb q m G A B V : Nat) (fs0 : Array Value) (mv : Value) (ns : List Nat) (w : World) (hF : FrameQ w fb q fs0 m G (ns ++ [A]) mv) (hl : ns.length ≤ 30) (hm : m ≤ 1000)
    (hV : ∀ w' a ab (args : Array Value), Kept [] w w' → w'.heap[ab]? = some (.cells args 89 (0, 0)) → args[0]? = some a → NumV w' a A → Calls Salg.prog 196 #[st, .pointer (some ⟨fb, q, none⟩), .int .u8 84, .slice (some ⟨ab, 0, none⟩) 1 1] w' fun e w'' => ∃ u, e = .returned u ∧ NumV w'' u V ∧ Kept [] w' w'') :
    Calls Salg.prog 120 #[st, .pointer (some ⟨fb, q, none⟩), .int .u8 84] w fun e w' => ∃ r, e = .returned r ∧ Kept [fb] w w' ∧ FrameQ w' fb q fs0 (m + 1) G (ns ++ [V]) mv := by
  have M := Mem.start w []
  obtain ⟨fs, pv, gv, sv, xs, hr, hsz, hfs, h3, hp, h4, hgv, h8, hs, hxs, hmv⟩ := hF
  have hxl : xs.length = ns.length + 1 := by have := hxs.1; simpa using this
  have hl4 : xs.length ≤ 40 := by omega
  have hlt : 1 ≤ xs.length := by omega
  have HP := hid hp
  have HGV := hid hgv
  have HS := hid hs
  have HXN := hid hxs
  have HFS := hid hfs
  have HSZ0 := hid hsz
  have H1 := hid hxs.one
  have HE := hid hV
  obtain ⟨p, cap, rfl⟩ : ∃ p cap, sv = .slice p xs.length cap := by
    rcases hs with ⟨rfl, rfl⟩ | ⟨g, cap, cur, rfl, _⟩
    · exact ⟨none, 0, rfl⟩
    · exact ⟨_, _, rfl⟩
  have HNB := hid (not_bytes_at (tc := 142) h8)
  have HCT := hid (HS.out.cut (xs.length - 1) (by omega))
  have hcap := HCT.out.1
  have HT : Hid (TightV w 89 (.slice p (xs.length - 1) (xs.length - 1)) (xs.take (xs.length - 1))) := HCT.out.2
  have HA := hid (fun w' (K : Kept [] w w') i (hi : i < xs.length) u hu => arg_q fb q fs _ u xs i w' (K.row hr (by simp)) h8 (HS.out.kept K) hi hu (by omega))
  have HAS := hid (fun i u (hi : i < 1) (hx : i < xs.length) hu => argsL_set (t := 1) (u := u) hi hx hu)
  have HAL := hid (fun i (h : i ≤ xs.length) (hi : i ≤ 1) => argsL_length (t := 1) h hi)
  have HAZ := hid (argsL_zero xs (1))
  have HAA := hid (argsL_all xs (1))
  have hsz8 : q + 8 < fs.size := (Array.getElem?_eq_some_iff.1 h8).1
  have hsz3 : q + 3 < fs.size := (Array.getElem?_eq_some_iff.1 h3).1
  clear hp hs HCT hgv hxs hfs hsz hV
  have HXS : Hid (∀ i, i < xs.length → ∃ u, xs[xs.length - 1 - i]? = some u) := fun i hi => ⟨xs[xs.length - 1 - i], List.getElem?_eq_getElem (by omega)⟩
  have HNV : Hid (∀ i u w', i < xs.length → xs[xs.length - 1 - i]? = some u → Kept [] w w' → ∀ N, (ns ++ [A])[ns.length + 1 - 1 - i]? = some N → NumV w' u N) := fun i u w' hi hu K N hN => (HXN.out.2 _ _ _ hu (by rw [hxl]; exact hN)).kept K
  obtain ⟨n, hn⟩ : ∃ n, n = xs.length := ⟨_, rfl⟩
  rw [← hn] at HT HA HAS HAL HXS hcap hl4 hlt h8 HNV hxl
  have HN := hid hn
  have HXL := hid hxl
  clear hn hxl
  go_enter Salg.func120, Salg.ntmps120
  go_wp2_with fail
  refine (arity_sload _).mono ?_
  rintro e w1 ⟨rfl, hw⟩
  replace hw := hw.symm
  subst hw
  go_wp2_with ((with_reducible apply W_makeV (n := 1) (s := 1) (cs := (List.replicate (1) (.slice none 0 0)).toArray) M); rfl; rfl; (first | rfl | omega); (first | rfl | omega); (first | decide | omega); exact Salg.underlying140; exact info89; rfl; decide; decide; decide; exact range1 _ _ rfl; clear M; intro ab w2 hab hab2 K M; rw [← HAZ.out] at M; clear K; simp only [Act.put, List.setIfInBounds_toArray, List.set_cons_zero, List.set_cons_succ])
  go_loopw [10, 24] (fun _ iv wr => ∃ i : Nat, i ≤ 1 ∧ iv = .int .i64 i ∧ Mem w [] [(ab, .cells (argsL xs i (1)).toArray 89 (0, 0))] wr) (fun _ iv _ => (((1 : Nat) : Int) - intOf iv).toNat)
  case atStart => exact ⟨0, by omega, rfl, M⟩
  case round =>
    clear M
    obtain ⟨i, hi, rfl, M⟩ := hrel
    rcases Nat.lt_or_ge i (1) with hlt2 | hge
    · obtain ⟨u, hu⟩ := HXS.out i (by omega)
      have HAu := hid (HA.out _ M.kept i (by omega) u hu)
      have HAs := HAS.out i u hlt2 (by omega) hu
      have HAl := HAL.out i (by omega) (by omega)
      have hu1 := oneCell_mem H1.out hu
      have hsz3 : i < (argsL xs i (1)).toArray.size := by rw [List.size_toArray, HAl]; exact hlt2
      go_wp2_with fail
      refine (HAu.out).mono ?_
      rintro e w3 ⟨rfl, K⟩
      replace M := M.call K
      clear K
      go_wp2_with ((with_reducible apply W_stV (b := ab) (o := i) (v := u)); rfl; rfl; exact hu1; exact M.r0; exact size89; exact hsz3; intro w4 K hr4; rw [HAs] at hr4; replace M := Mem.callPut (L1 := []) M (Or.inr hab) K hr4; clear K hr4; simp only [List.nil_append] at M)
      go_roundw
      case rel => exact ⟨i + 1, by omega, by go_num, M⟩
      case measure => simp [intOf]; omega
    · have hit : 1 = i := by omega
      subst hit
      clear hge HA HAS HAL
      rw [HAA.out] at M
      have HG := hid (fun i (hi : i < 1) => args_get (t := 1) (i := i) hi (by rw [← HN.out]; exact hlt))
      rw [← HN.out] at HG
      go_wp2_with fail
      refine S_region (by kernel_rfl) ?_
      refine E_stage 0 11 [0, 1, 2, 3, 4, 5, 6, 7, 8, 9, 10] (by kernel_rfl) M.drew ?_
      clear M
      simp only [List.filterMap_cons, List.filterMap_nil, List.getElem?_cons_zero, List.getElem?_cons_succ]
      ((with_reducible apply E_run); rfl; rfl; (intro w M; go_simp; (try go_ints); (try simp only [↓IntWalk.iteOmega]); (try with_reducible rfl)); simp only [Act.put, List.setIfInBounds_toArray, List.set_cons_zero, List.set_cons_succ])
      ((with_reducible apply E_run); rfl; rfl; (intro w M; go_simp; (try go_ints); (try simp only [↓IntWalk.iteOmega]); (try with_reducible rfl)); simp only [Act.put, List.setIfInBounds_toArray, List.set_cons_zero, List.set_cons_succ])
      ((with_reducible apply E_run); rfl; rfl; (intro w M; go_simp; (try go_ints); (try simp only [↓IntWalk.iteOmega]); (try with_reducible rfl)); simp only [Act.put, List.setIfInBounds_toArray, List.set_cons_zero, List.set_cons_succ])
      ((with_reducible apply E_run); rfl; rfl; (intro w M; exact run_loadCell (M.kept.row hr (by simp)) rfl h3 Salg.underlying89 rfl); simp only [Act.put, List.setIfInBounds_toArray, List.set_cons_zero, List.set_cons_succ])
      ((with_reducible apply E_run); rfl; rfl; (intro w M; go_simp; (try go_ints); (try simp only [↓IntWalk.iteOmega]); (try with_reducible rfl)); simp only [Act.put, List.setIfInBounds_toArray, List.set_cons_zero, List.set_cons_succ])
      refine E_call rfl Salg.func195 (by kernel_rfl) (by kernel_rfl) (args := [.int .u8 (84 : Int)]) rfl ?_
      intro w1 K M
      clear K
      refine (imm_other 84 _ (by decide)).mono ?_
      rintro e w4 ⟨rfl, hw⟩
      replace hw := hw.symm
      subst hw
      refine ⟨_, rfl, trivial, M, ?_⟩
      simp only [Act.put, List.setIfInBounds_toArray, List.set_cons_zero, List.set_cons_succ]
      ((with_reducible apply E_run); rfl; rfl; (intro w M; go_simp; (try go_ints); (try simp only [↓IntWalk.iteOmega]); (try with_reducible rfl)); simp only [Act.put, List.setIfInBounds_toArray, List.set_cons_zero, List.set_cons_succ])
      ((with_reducible apply E_run); rfl; rfl; (intro w M; go_simp; (try go_ints); (try simp only [↓IntWalk.iteOmega]); (try with_reducible rfl)); simp only [Act.put, List.setIfInBounds_toArray, List.set_cons_zero, List.set_cons_succ])
      refine E_call rfl Salg.func87 (by kernel_rfl) (by kernel_rfl) (args := [.int .u64 (((1 + 0 : Nat)) : Int)]) rfl ?_
      intro w1 K M
      clear K
      refine (num_int _ (1 + 0) (by rfl) (by omega) _).mono ?_
      rintro e w5 ⟨r1, rfl, xHR1, K⟩
      have HR1 := hid xHR1
      clear xHR1
      replace M := M.call K
      refine ⟨_, rfl, trivial, M, ?_⟩
      clear K
      simp only [Act.put, List.setIfInBounds_toArray, List.set_cons_zero, List.set_cons_succ]
      refine E_call rfl Salg.func68 (by kernel_rfl) (by kernel_rfl) (args := [pv, r1]) rfl ?_
      intro w1 K M
      replace HR1 := hid (HR1.out.kept K)
      clear K
      refine (add_num _ _ _ _ _ (HP.out.kept M.kept) HR1.out (by omega) (by omega)).mono ?_
      rintro e w6 ⟨r2, rfl, xHR2, K⟩
      have HR2 := hid xHR2
      clear xHR2
      replace HR1 := hid (HR1.out.kept K)
      replace M := M.call K
      refine ⟨_, rfl, trivial, M, ?_⟩
      clear K
      simp only [Act.put, List.setIfInBounds_toArray, List.set_cons_zero, List.set_cons_succ]
      ((with_reducible apply E_run); rfl; rfl; (intro w M; go_simp; (try go_ints); (try simp only [↓IntWalk.iteOmega]); (try with_reducible rfl)); simp only [Act.put, List.setIfInBounds_toArray, List.set_cons_zero, List.set_cons_succ])
      refine E_nil ?_
      intro w9 K M
      replace HR2 := hid (HR2.out.kept K)
      clear K
      refine S_done ?_
      go_wp2_with fail
      refine S_region (by kernel_rfl) ?_
      replace HR2 := hid (HR2.out.kept (Kept.refl [] _).drew)
      refine E_stage 0 20 [0, 1, 2, 3, 4, 5, 6, 7, 8, 9, 10, 11, 12, 13, 14, 15, 16, 17, 18, 19] (by kernel_rfl) M.drew ?_
      clear M
      simp only [List.filterMap_cons, List.filterMap_nil, List.getElem?_cons_zero, List.getElem?_cons_succ]
      ((with_reducible apply E_run); rfl; rfl; (intro w M; go_simp; (try go_ints); (try simp only [↓IntWalk.iteOmega]); (try with_reducible rfl)); simp only [Act.put, List.setIfInBounds_toArray, List.set_cons_zero, List.set_cons_succ])
      ((with_reducible apply E_run); rfl; rfl; (intro w M; go_simp; (try go_ints); (try simp only [↓IntWalk.iteOmega]); (try with_reducible rfl)); simp only [Act.put, List.setIfInBounds_toArray, List.set_cons_zero, List.set_cons_succ])
      ((with_reducible apply E_run); rfl; rfl; (intro w M; go_simp; (try go_ints); (try simp only [↓IntWalk.iteOmega]); (try with_reducible rfl)); simp only [Act.put, List.setIfInBounds_toArray, List.set_cons_zero, List.set_cons_succ])
      ((with_reducible apply E_run); rfl; rfl; (intro w M; exact run_loadCell (M.kept.row hr (by simp)) rfl h8 Salg.underlying140 rfl); simp only [Act.put, List.setIfInBounds_toArray, List.set_cons_zero, List.set_cons_succ])
      ((with_reducible apply E_run); rfl; rfl; (intro w M; go_simp; (try go_ints); (try simp only [↓IntWalk.iteOmega]); (try with_reducible rfl)); simp only [Act.put, List.setIfInBounds_toArray, List.set_cons_zero, List.set_cons_succ])
      ((with_reducible apply E_run); rfl; rfl; (intro w M; go_simp; (try go_ints); (try simp only [↓IntWalk.iteOmega]); (try with_reducible rfl)); simp only [Act.put, List.setIfInBounds_toArray, List.set_cons_zero, List.set_cons_succ])
      ((with_reducible apply E_run); rfl; rfl; (intro w M; go_simp; (try go_ints); (try simp only [↓IntWalk.iteOmega]); (try with_reducible rfl)); simp only [Act.put, List.setIfInBounds_toArray, List.set_cons_zero, List.set_cons_succ])
      ((with_reducible apply E_run); rfl; rfl; (intro w M; exact run_loadCell (M.kept.row hr (by simp)) rfl h8 Salg.underlying140 rfl); simp only [Act.put, List.setIfInBounds_toArray, List.set_cons_zero, List.set_cons_succ])
      ((with_reducible apply E_run); rfl; rfl; (intro w M; go_simp; (try go_ints); (try simp only [↓IntWalk.iteOmega]); (try with_reducible rfl)); simp only [Act.put, List.setIfInBounds_toArray, List.set_cons_zero, List.set_cons_succ])
      ((with_reducible apply E_run); rfl; rfl; (intro w M; go_simp; (try go_ints); (try simp only [↓IntWalk.iteOmega]); (try with_reducible rfl)); simp only [Act.put, List.setIfInBounds_toArray, List.set_cons_zero, List.set_cons_succ])
      ((with_reducible apply E_run); rfl; rfl; (intro w M; go_simp; (try go_ints); (try simp only [↓IntWalk.iteOmega]); (try with_reducible rfl)); simp only [Act.put, List.setIfInBounds_toArray, List.set_cons_zero, List.set_cons_succ])
      ((with_reducible apply E_run); rfl; rfl; (intro w M; go_simp; (try go_ints); (try simp only [↓IntWalk.iteOmega]); (try with_reducible rfl)); simp only [Act.put, List.setIfInBounds_toArray, List.set_cons_zero, List.set_cons_succ])
      ((with_reducible apply E_run); rfl; rfl; (intro w M; go_simp; (try go_ints); (try simp only [↓IntWalk.iteOmega]); (try with_reducible rfl)); simp only [Act.put, List.setIfInBounds_toArray, List.set_cons_zero, List.set_cons_succ])
      ((with_reducible apply E_run); rfl; rfl; (intro w M; go_simp; (try go_ints); (try simp only [↓IntWalk.iteOmega]); (try with_reducible rfl)); simp only [Act.put, List.setIfInBounds_toArray, List.set_cons_zero, List.set_cons_succ])
      ((with_reducible apply E_run); rfl; rfl; (intro w M; exact run_loadCell (M.kept.row hr (by simp)) rfl h8 Salg.underlying140 rfl); simp only [Act.put, List.setIfInBounds_toArray, List.set_cons_zero, List.set_cons_succ])
      ((with_reducible apply E_run); rfl; rfl; (intro w M; go_simp; (try go_ints); (try simp only [↓IntWalk.iteOmega]); (try with_reducible rfl)); simp only [Act.put, List.setIfInBounds_toArray, List.set_cons_zero, List.set_cons_succ])
      ((with_reducible apply E_run); rfl; rfl; (intro w M; go_simp; (try go_ints); (try simp only [↓IntWalk.iteOmega]); (try with_reducible rfl)); simp only [Act.put, List.setIfInBounds_toArray, List.set_cons_zero, List.set_cons_succ])
      ((with_reducible apply E_run); rfl; rfl; (intro w M; go_simp; (try go_ints); (try simp only [↓IntWalk.iteOmega]); (try with_reducible rfl)); simp only [Act.put, List.setIfInBounds_toArray, List.set_cons_zero, List.set_cons_succ])
      ((with_reducible apply E_run); rfl; rfl; (intro w M; exact run_slice3 (n := n - 1) rfl rfl rfl (by omega) (by omega) Salg.underlying140 ⟨1, size89⟩ hcap); simp only [Act.put, List.setIfInBounds_toArray, List.set_cons_zero, List.set_cons_succ])
      ((with_reducible apply E_run); rfl; rfl; (intro w M; go_simp; (try go_ints); (try simp only [↓IntWalk.iteOmega]); (try with_reducible rfl)); simp only [Act.put, List.setIfInBounds_toArray, List.set_cons_zero, List.set_cons_succ])
      refine E_nil ?_
      intro w10 K M
      replace HR2 := hid (HR2.out.kept K)
      clear K
      refine S_done ?_
      go_wp2_with fail
      obtain ⟨a, ha⟩ := HXS.out 0 (by omega)
      have Na := hid (HNV.out 0 a _ (by omega) ha M.kept A (by simp))
      have Ga := (HG.out 0 (by decide)).trans ha
      refine (HE.out _ a ab _ M.kept M.r0 (by simpa using Ga) Na.out).mono ?_
      rintro e w11 ⟨u, rfl, xP, K⟩
      have HU := hid xP
      have HU1 := hid HU.out.one
      replace HR2 := hid (HR2.out.kept K)
      replace M := M.call K
      clear K xP
      go_wp2_with (first
        | ((with_reducible apply W_buildIt (u := u) (vs := #[u]) (s := 1) M); rfl; exact one_cells HU1.out; exact Salg.underlying140; exact size89; exact zsome89; rfl; decide; decide; clear M; intro bn w12 hbn hbn2 KB M; have hsz12 := KB.size; replace HR2 := hid (HR2.out.kept KB); replace HU := hid (HU.out.kept KB); clear KB; simp only [Act.put, List.setIfInBounds_toArray, List.set_cons_zero, List.set_cons_succ])
        | ((with_reducible apply W_appendK (bn := bn) (u := u) (xs := xs.take (n - 1)) M); exact info89; exact Salg.underlying140; rfl; decide; rfl; rfl; exact HT.out.kept M.kept; (simp; omega); exact M.r0; exact HU1.out; (have HSZ := M.kept.size); clear M; intro VV w13 M xO KA; have HOWN := hid xO; clear xO; have HVV := hid (RowV.own HOWN.out); replace HR2 := hid (HR2.out.kept KA); replace HU := hid (HU.out.kept KA); clear KA; simp only [Act.put, List.setIfInBounds_toArray, List.set_cons_zero, List.set_cons_succ])
        | ((with_reducible apply W_stV (b := fb) (o := q + 8) (v := VV)); rfl; rfl; exact HVV.out.one; exact M.kept.row hr (by simp); exact size140; exact hsz8; intro w21 K1 hr11)
        | ((with_reducible apply W_stV (b := fb) (o := q + 3) (v := r2)); rfl; rfl; exact HR2.out.one; exact hr11; exact size89; (simp; omega); intro w22 K2 hr12))
      go_end0
      have hrow := M.kept.row hr (by simp)
      have KK := K1.trans K2
      have HAP : Hid (xs.take (n - 1) = xs.take ns.length) := by
        show _ = _
        have := HXL.out
        rw [show n - 1 = ns.length by omega]
      have HNS : Hid (NumsV w22 (xs.take (n - 1) ++ [u]) (ns ++ [V])) := by
        have e1 := (((HXN.out.kept M.kept).keptC KK hrow HNB.out).take ns.length)
        rw [List.take_left] at e1
        rw [HAP.out]
        exact e1.push (HU.out.keptC KK hrow HNB.out)
      exact ⟨_, rfl, (M.kept.mono (by simp)).trans KK, ⟨_, r2, gv, VV, xs.take (n - 1) ++ [u], hr12, by simp only [Array.size_setIfInBounds]; exact HSZ0.out, fun k k3 k4 k8 k9 => by rw [Array.getElem?_setIfInBounds_ne (by omega), Array.getElem?_setIfInBounds_ne (by omega)]; exact HFS.out k k3 k4 k8 k9, Array.getElem?_setIfInBounds_self_of_lt (by simp; omega), HR2.out.keptC KK hrow HNB.out, by rw [Array.getElem?_setIfInBounds_ne (by omega), Array.getElem?_setIfInBounds_ne (by omega)]; exact h4, (HGV.out.kept M.kept).keptC KK hrow HNB.out, by rw [Array.getElem?_setIfInBounds_ne (by omega), Array.getElem?_setIfInBounds_self_of_lt hsz8], (by first | exact HVV.out.keptC KK hrow (by decide) | (rw [← HN.out]; exact HVV.out.keptC KK hrow (by decide))), HNS.out, by rw [Array.getElem?_setIfInBounds_ne (by omega), Array.getElem?_setIfInBounds_ne (by omega)]; exact hmv⟩⟩
theorem plain_push_F (st : Value) (fb q m G o i c : Nat) (fs0 : Array Value) (cv mv : Value) (ds ns : List Nat) (w : World) (hk : OpK o 0 1 i c) (h95 : 95 ≤ o) (h127 : o ≤ 127) (hF : FrameQ w fb q fs0 m G ns mv) (hf : FrC fs0 q cv) (hc : NatV w cv ds) (hl : ns.length ≤ 30) (hm : m ≤ 1000) (hl2 : ds.length ≤ 1000) :
    Calls Salg.prog 120 #[st, .pointer (some ⟨fb, q, none⟩), .int .u8 o] w fun e w' => ∃ r, e = .returned r ∧ Kept [fb] w w' ∧ FrameQ w' fb q fs0 (m + (1 + i)) G (ns ++ [be (cutB ds (m + 1) i)]) mv := by
  obtain ⟨fs, pv, gv, sv, xs, h1, h0, h2, h3, h4, h5, h6, h7, h8, h9, ha⟩ := hF
  have hxl := h9.1
  obtain ⟨p, n, k, rfl⟩ := rowV_slice h8
  have hnb := not_bytes_at (tc := 142) h7
  have z3 : q + 3 < fs.size := (Array.getElem?_eq_some_iff.1 h3).1
  have z8 : q + 8 < fs.size := (Array.getElem?_eq_some_iff.1 h7).1
  refine (plain_push_q st fb q m o i c cv ds fs pv (.slice p n k) xs w hk h95 h127 h1 h3 h4 h7 h8 h9.one (by omega) (by omega) hm ((h2 (q + 10) (by omega) (by omega) (by omega) (by omega)).trans hf.f10) hc hl2).mono ?_
  rintro e w' ⟨r, v', pv', u, rfl, K, hr, hv, hp, hu⟩
  refine ⟨_, rfl, K, _, pv', gv, v', xs ++ [u], hr, by simp only [Array.size_setIfInBounds]; exact h0, fun j j3 j4 j8 j9 => ?_, ?_, hp, ?_, h6.keptC K h1 hnb, ?_, hv, (h9.keptC K h1 hnb).push hu, ?_⟩
  · rw [Array.getElem?_setIfInBounds_ne (by omega), Array.getElem?_setIfInBounds_ne (by omega)]
    exact h2 j j3 j4 j8 j9
  · rw [Array.getElem?_setIfInBounds_self_of_lt (by simpa using z3)]
  · rw [Array.getElem?_setIfInBounds_ne (by omega), Array.getElem?_setIfInBounds_ne (by omega)]
    exact h5
  · rw [Array.getElem?_setIfInBounds_ne (by omega), Array.getElem?_setIfInBounds_self_of_lt (by simpa using z8)]
  · rw [Array.getElem?_setIfInBounds_ne (by omega), Array.getElem?_setIfInBounds_ne (by omega)]
    exact ha
end Go.Proofs.YgcsalGreat

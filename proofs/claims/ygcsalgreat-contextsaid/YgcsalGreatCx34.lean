/-
  The walk of (*yp.Chain).Export on any accounts that are not empty.
-/
import Derived.Test.YgcsalGreatCx33
import Derived.Test.YgcsalGreatSl37
set_option linter.unusedSimpArgs false
set_option linter.unusedVariables false
namespace Go.Own
open Go.Proofs.YgcsalGreat
/-- The low k bytes of a number. -/
def nbw : Nat → Nat → List Nat
  | 0, _ => []
  | k + 1, B => B / 256 ^ k % 256 :: nbw k B
theorem nbw_len (B : Nat) : ∀ k, (nbw k B).length = k
  | 0 => rfl
  | k + 1 => by simp [nbw, nbw_len B k]
theorem nbw_small (B : Nat) : ∀ k, Small (nbw k B)
  | 0 => by intro x hx; cases hx
  | k + 1 => by
    intro x hx
    rcases List.mem_cons.1 hx with rfl | hx
    · exact Nat.mod_lt _ (by decide)
    · exact nbw_small B k x hx
theorem nbw_be (B : Nat) : ∀ k, be (nbw k B) = B % 256 ^ k
  | 0 => by simp [nbw, be, Nat.mod_one]
  | k + 1 => by
    have e : be [B / 256 ^ k % 256] = B / 256 ^ k % 256 := by simp [be]
    rw [nbw, show (B / 256 ^ k % 256 :: nbw k B) = [B / 256 ^ k % 256] ++ nbw k B from rfl, be_app, e, nbw_be B k, nbw_len, Nat.pow_succ, Nat.mod_mul]
    rw [Nat.mul_comm (256 ^ k), Nat.add_comm]
theorem nbw_pad {v : Nat} (hv : v < 256) : ∀ k, nbw (k + 1) v = List.replicate k 0 ++ [v]
  | 0 => by simp [nbw, Nat.mod_eq_of_lt hv]
  | k + 1 => by
    have h1 : 256 ≤ 256 ^ (k + 1) := by
      have := Nat.pow_le_pow_right (show 0 < 256 by decide) (show 1 ≤ k + 1 by omega)
      simpa using this
    rw [nbw, nbw_pad hv k, Nat.div_eq_of_lt (by omega), List.replicate_succ]
    rfl
theorem nbw_padN {v : Nat} (hv : v < 256) : nbw 32 v = padN v := nbw_pad hv 31
theorem AcDs.at {w : World} : ∀ {l : List Ac} {D : List AD}, AcDs w l D → ∀ (i : Nat) (d : AD), D[i]? = some d → ∃ nv bv cu : Value, l[i]? = some ⟨d.adr, [nv, bv, cu, nilS]⟩ ∧ NumV w nv d.N ∧ NumV w bv d.B ∧ NatV w cu d.ds
  | [], [], _, i, d, h => by simp at h
  | p :: l, x :: D, h, 0, d, hd => by
    obtain ⟨⟨h0, nv, bv, cu, h1, h2, h3, h4⟩, _⟩ := h
    have e : x = d := by simpa using hd
    subst e
    refine ⟨nv, bv, cu, ?_, h2, h3, h4⟩
    cases p
    simp only at h0 h1
    rw [h0, h1]
    rfl
  | p :: l, x :: D, h, i + 1, d, hd => by
    obtain ⟨nv, bv, cu, e1, e2⟩ := h.2.at i d (by simpa using hd)
    exact ⟨nv, bv, cu, by simpa using e1, e2⟩
  | [], _ :: _, h, _, _, _ => h.elim
  | _ :: _, [], h, _, _, _ => h.elim
/-- An account's cells as Export lays them. -/
def oaG (a : List Nat) (N : Nat) (bal : List Nat) (code st : Value) : List Value := a.map n8 ++ ([n64 N] ++ (bal.map n8 ++ [code, st]))
theorem oaG_len {a : List Nat} {N : Nat} {bal : List Nat} {code st : Value} (ha : a.length = 20) (h : bal.length = 32) : (oaG a N bal code st).length = 55 := by simp [oaG, ha, h]
theorem oaG_53 {a : List Nat} {N : Nat} {bal : List Nat} {code st : Value} (ha : a.length = 20) (h : bal.length = 32) : (oaG a N bal code st)[53]? = some code := by
  simp only [oaG]
  rw [List.getElem?_append_right (by simp [ha]), List.getElem?_append_right (by simp [ha]), List.getElem?_append_right (by simp [ha, h])]
  simp [ha, h]
theorem oaG_one {a : List Nat} {N : Nat} {bal : List Nat} {code st : Value} (h1 : code.oneCell' = true) (h2 : st.oneCell' = true) : ∀ u ∈ oaG a N bal code st, u.oneCell' = true := by
  intro u hu
  simp only [oaG, List.mem_append, List.mem_cons, List.not_mem_nil, or_false, List.mem_map] at hu
  rcases hu with ⟨x, _, rfl⟩ | rfl | ⟨x, _, rfl⟩ | rfl | rfl
  · rfl
  · rfl
  · rfl
  · exact h1
  · exact h2
def outD : List AD → List Value → List Value
  | d :: D, o :: os => oaG d.adr d.N (nbw 32 d.B) o nilS ++ outD D os
  | _, _ => []
theorem outD_nil (D : List AD) : outD D [] = [] := by cases D <;> rfl
theorem outD_snoc : ∀ (D : List AD) (os : List Value) (d : AD) (o : Value), D[os.length]? = some d → outD D (os ++ [o]) = outD D os ++ oaG d.adr d.N (nbw 32 d.B) o nilS
  | [], os, x, o, h => by simp at h
  | y :: xs, [], x, o, h => by
    simp at h
    subst h
    simp [outD]
  | y :: xs, p :: os, x, o, h => by
    simp at h
    simp only [List.cons_append, outD, outD_snoc xs os x o h, List.append_assoc]
def OutsD (D : List AD) (w : World) (os : List Value) : Prop := ∀ (j : Nat) (d : AD) (o : Value), D[j]? = some d → os[j]? = some o → NatV w o d.ds
theorem OutsD.kept {D : List AD} {w w' : World} {os : List Value} (h : OutsD D w os) (k : Kept [] w w') : OutsD D w' os := fun j x o h1 h2 => (h j x o h1 h2).kept k
theorem OutsD.keptO {D : List AD} {w w' : World} {os : List Value} {base i : Nat} {lv : Value} (hD : ∀ d ∈ D, d.adr.length = 20) (hO : w.ownsRow base 123 55 lv i (outD D os)) (h0 : os = [] → lv = nilS) (hl : os.length ≤ D.length) (h : OutsD D w os) (K : Kept lv.ownBlock.toList w w') : ∀ (o : Value) (ds : List Nat), NatV w o ds → NatV w' o ds := by
  intro o ds hx
  cases os with
  | nil =>
    rw [h0 rfl] at K
    exact hx.kept K
  | cons q os =>
    cases D with
    | nil => simp at hl
    | cons y xs =>
      have hq := h 0 y q rfl rfl
      obtain ⟨p, a, b, e⟩ := hq.slice
      have hk : (outD (y :: xs) (q :: os))[53]? = some (.slice p a b) := by
        rw [outD, List.getElem?_append_left (by rw [oaG_len (hD y (by simp)) (nbw_len _ _)]; decide), oaG_53 (hD y (by simp)) (nbw_len _ _), e]
      rcases own_nb hO hk with h1 | ⟨g, cur, h1, h2, h3⟩
      · rw [h1] at K
        exact hx.kept K
      · rw [h1] at K
        exact hx.keptC K h2 h3
end Go.Own
namespace Go.Proofs.YgcsalGreat
open Go.RowKit Go.Own

set_option maxHeartbeats 4000000 in
set_option maxRecDepth 100000 in
theorem export_D (c tc : Nat) (cs : Array Value) (va : Value) (D : List AD) (w : World) (hc : w.heap[c]? = some (.cells cs tc (0, 0))) (h0 : cs[0]? = some va) (hv : AccD D w va) (hD : ∀ d ∈ D, d.adr.length = 20 ∧ d.N ≠ 0 ∧ d.N < 18446744073709551616 ∧ d.B < 256 ^ 32) (hn : D.length ≤ 20) :
    Calls Salg.prog 30 #[.pointer (some ⟨c, 0, none⟩)] w fun e w' => ∃ (v : Value) (os : List Value), e = .returned v ∧ os.length = D.length ∧ w'.ownsRow w.heap.size 123 55 v D.length (outD D os) ∧ OutsD D w' os ∧ Kept [] w w' := by
  have M := Mem.start w []
  obtain ⟨l, hv1, hv2⟩ := hv
  have HV := hid hv1
  have HX := hid hv2
  have HDD := hid hD
  have hll := hv2.len
  clear hv1 hv2 hD
  obtain ⟨p, m, cap, rfl, hn'⟩ : ∃ p n cap, va = .slice p n cap ∧ n = l.length := by
    rcases HV.out.own.2 with ⟨h1, h2⟩ | ⟨g, cap, cur, h1, _⟩
    · exact ⟨none, 0, 0, h1, h2.symm⟩
    · exact ⟨_, _, _, h1, rfl⟩
  have HN : Hid (m = D.length) := hn'.trans hll
  have HNL' := hid hn'
  have hm20 : m ≤ 20 := by omega
  clear hn' hn hll
  go_enter Salg.func30, Salg.ntmps30
  go_wp2_with ((with_reducible apply W_loadCell); rfl; exact M.kept.row hc (by simp); exact h0; exact Salg.underlying108; rfl; simp only [Act.put, List.setIfInBounds_toArray, List.set_cons_zero, List.set_cons_succ])
  go_loopw [3, 16] (fun lv iv wr => ∃ (i : Nat) (os : List Value), i ≤ m ∧ iv = .int .i64 i ∧ os.length = i ∧ (os = [] → lv = nilS) ∧ Mem w [] [] wr ∧ wr.ownsRow w.heap.size 123 55 lv i (outD D os) ∧ OutsD D wr os) (fun _ iv _ => (m - intOf iv).toNat)
  case atStart => exact ⟨0, [], by omega, rfl, rfl, fun _ => rfl, M, by rw [outD_nil]; exact own_nil _ _ _ _, by intro j x o h1 h2; simp at h2⟩
  case round =>
    clear M
    obtain ⟨i, os, hi, rfl, hol, xnil, MW, xO, xP⟩ := hrel
    have HO := hid xO
    have HP := hid xP
    have HNL := hid xnil
    have HOL := hid hol
    have HWR := hid MW.kept
    clear xO xP xnil hol
    generalize hlv : u3 = lv at *
    rcases Nat.lt_or_ge i m with hlt | hge
    · have hixs : i < D.length := by rw [← HN.out]; exact hlt
      have hil : i < l.length := by rw [← HNL'.out]; exact hlt
      obtain ⟨g, cap', cur, hpe, hrg, hsz, hex⟩ := HV.out.at hil
      have hpp : p = some ⟨g, 0, none⟩ := by injection hpe
      subst hpp
      clear hpe
      have HXI : Hid (D[i]? = some D[i]) := List.getElem?_eq_getElem hixs
      obtain ⟨nv, bv, cu, e1, e2, e3, e4⟩ := HX.out.at i D[i] HXI.out
      have HOK := hid (HV.out.ok _ (List.getElem_mem hil))
      rw [List.getElem?_eq_getElem hil] at e1
      have e1' := Option.some.inj e1
      rw [e1'] at hex HOK
      have HDI := HDD.out D[i] (List.getElem_mem hixs)
      have HLE : Hid (os.length ≤ D.length) := by rw [HOL.out]; exact Nat.le_of_lt hixs
      clear e1 e1'
      generalize D[i] = x at *
      obtain ⟨adr, N, B, ds⟩ := x
      simp only at e2 e3 e4 hex HOK HDI
      obtain ⟨ha20, hN0, hN64, hB32⟩ := HDI
      obtain ⟨a0, a1, a2, a3, a4, a5, a6, a7, a8, a9, a10, a11, a12, a13, a14, a15, a16, a17, a18, a19, rfl⟩ := list20 ha20
      have HEX : Hid (cur.extract (i * 24) (i * 24 + 24) = (⟨[a0, a1, a2, a3, a4, a5, a6, a7, a8, a9, a10, a11, a12, a13, a14, a15, a16, a17, a18, a19], [nv, bv, cu, nilS]⟩ : Ac).cells.toArray) := hex
      have HNV : Hid (NumV w nv N) := e2
      have HBV : Hid (NumV w bv (be (nbw 32 B))) := by
        show NumV _ _ _
        rw [nbw_be, Nat.mod_eq_of_lt hB32]
        exact e3
      have HCU : Hid (NatV w cu ds) := e4
      have HN0 := hid hN0
      clear e2 e3 e4 hex hixs hil hB32 hN0
      have HON0 : Hid (∀ u ∈ (⟨[a0, a1, a2, a3, a4, a5, a6, a7, a8, a9, a10, a11, a12, a13, a14, a15, a16, a17, a18, a19], [nv, bv, cu, nilS]⟩ : Ac).cells.toArray.toList, u.oneCell' = true) := one_list (by
        have e : ((⟨[a0, a1, a2, a3, a4, a5, a6, a7, a8, a9, a10, a11, a12, a13, a14, a15, a16, a17, a18, a19], [nv, bv, cu, nilS]⟩ : Ac).cells.toArray.toList.all fun u => u.oneCell') = (nv.oneCell' && (bv.oneCell' && (cu.oneCell' && true))) := by kernel_rfl
        rw [e, HNV.out.one, HBV.out.one, HCU.out.one]
        rfl)
      have M := Mem.start wr []
      go_wp2_with (first
        | ((with_reducible apply W_load (n := 24) (o := i * 24)); rfl; exact HWR.out.row hrg (by simp); exact Salg.underlying128; rfl; exact size128; exact hsz; rw [HEX.out]; simp only [Act.put, List.setIfInBounds_toArray, List.set_cons_zero, List.set_cons_succ])
        | ((with_reducible apply L_allocA (d := 5) M); exact zero128; clear M; intro t5 w1 ht5 M; simp only [Act.put, List.setIfInBounds_toArray, List.set_cons_zero, List.set_cons_succ])
        | ((with_reducible apply W_storeK (b := t5) (vs := (⟨[a0, a1, a2, a3, a4, a5, a6, a7, a8, a9, a10, a11, a12, a13, a14, a15, a16, a17, a18, a19], [nv, bv, cu, nilS]⟩ : Ac).cells.toArray)); rfl; rfl; exact M.r0; exact size128; rfl; exact HON0.out; intro w3 K hr3; replace M := Mem.callPut (L1 := []) M (Or.inr ht5) K hr3; clear K hr3; simp only [List.nil_append] at M))
      refine (empty_no t5 ⟨[a0, a1, a2, a3, a4, a5, a6, a7, a8, a9, a10, a11, a12, a13, a14, a15, a16, a17, a18, a19], [nv, bv, cu, nilS]⟩ nv N _ M.r0 HOK.out rfl (HNV.out.kept (HWR.out.trans M.kept)) HN0.out).mono ?_
      rintro e w2 ⟨rfl, K⟩
      replace M := M.call K
      clear K
      go_wp2_with fail
      refine S_region (by kernel_rfl) ?_
      refine E_float 0 13 [0, 1, 2, 3, 5, 6, 8, 9, 4, 7, 10, 11] 12 6 _ (by kernel_rfl) ⟨⟨_, _, _, _, _, rfl, zero123, rfl⟩⟩ (by simp) M.drew ?_
      clear M
      simp only [List.filterMap_cons, List.filterMap_nil, List.getElem?_cons_zero, List.getElem?_cons_succ]
      ((with_reducible apply E_run); rfl; rfl; (intro w M; go_simp; (try go_ints); (try simp only [↓IntWalk.iteOmega]); (try with_reducible rfl)); simp only [Act.put, List.setIfInBounds_toArray, List.set_cons_zero, List.set_cons_succ])
      ((with_reducible apply E_run (v := .agg (([a0, a1, a2, a3, a4, a5, a6, a7, a8, a9, a10, a11, a12, a13, a14, a15, a16, a17, a18, a19] : List Nat).map n8).toArray)); rfl; rfl; (intro w M; exact run_loadX (n := 20) M.r0 rfl Salg.underlying45 rfl size45 (Nat.le_of_ble_eq_true (by kernel_rfl)) (show (⟨[a0, a1, a2, a3, a4, a5, a6, a7, a8, a9, a10, a11, a12, a13, a14, a15, a16, a17, a18, a19], [nv, bv, cu, nilS]⟩ : Ac).cells.toArray.extract 0 (0 + 20) = _ by kernel_rfl)); simp only [Act.put, List.setIfInBounds_toArray, List.set_cons_zero, List.set_cons_succ])
      ((with_reducible apply E_run); rfl; rfl; (intro w M; go_simp; (try go_ints); (try simp only [↓IntWalk.iteOmega]); (try with_reducible rfl)); simp only [Act.put, List.setIfInBounds_toArray, List.set_cons_zero, List.set_cons_succ])
      ((with_reducible apply E_run); rfl; rfl; (intro w M; exact run_loadCell (M.r0) rfl (show (⟨[a0, a1, a2, a3, a4, a5, a6, a7, a8, a9, a10, a11, a12, a13, a14, a15, a16, a17, a18, a19], [nv, bv, cu, nilS]⟩ : Ac).cells.toArray[20]? = some nv by kernel_rfl) Salg.underlying89 rfl); simp only [Act.put, List.setIfInBounds_toArray, List.set_cons_zero, List.set_cons_succ])
      ((with_reducible apply E_run); rfl; rfl; (intro w M; go_simp; (try go_ints); (try simp only [↓IntWalk.iteOmega]); (try with_reducible rfl)); simp only [Act.put, List.setIfInBounds_toArray, List.set_cons_zero, List.set_cons_succ])
      ((with_reducible apply E_run); rfl; rfl; (intro w M; exact run_loadCell (M.r0) rfl (show (⟨[a0, a1, a2, a3, a4, a5, a6, a7, a8, a9, a10, a11, a12, a13, a14, a15, a16, a17, a18, a19], [nv, bv, cu, nilS]⟩ : Ac).cells.toArray[21]? = some bv by kernel_rfl) Salg.underlying89 rfl); simp only [Act.put, List.setIfInBounds_toArray, List.set_cons_zero, List.set_cons_succ])
      ((with_reducible apply E_run); rfl; rfl; (intro w M; go_simp; (try go_ints); (try simp only [↓IntWalk.iteOmega]); (try with_reducible rfl)); simp only [Act.put, List.setIfInBounds_toArray, List.set_cons_zero, List.set_cons_succ])
      ((with_reducible apply E_run); rfl; rfl; (intro w M; exact run_loadCell (M.r0) rfl (show (⟨[a0, a1, a2, a3, a4, a5, a6, a7, a8, a9, a10, a11, a12, a13, a14, a15, a16, a17, a18, a19], [nv, bv, cu, nilS]⟩ : Ac).cells.toArray[22]? = some cu by kernel_rfl) Salg.underlying40 rfl); simp only [Act.put, List.setIfInBounds_toArray, List.set_cons_zero, List.set_cons_succ])
      refine E_call rfl Salg.func101 (by kernel_rfl) (by kernel_rfl) (args := [nv]) rfl ?_
      intro w1 K M
      clear K
      refine (small_any nv N _ (HNV.out.kept (HWR.out.trans M.kept)) hN64).mono ?_
      rintro e w3 ⟨rfl, hw⟩
      replace hw := hw.symm
      subst hw
      refine ⟨_, rfl, Kept.refl _ _, M, ?_⟩
      simp only [Act.put, List.setIfInBounds_toArray, List.set_cons_zero, List.set_cons_succ]
      refine E_call rfl Salg.func102 (by kernel_rfl) (by kernel_rfl) (args := [bv]) rfl ?_
      intro w1 K M
      clear K
      refine (word_any bv (nbw 32 B) _ (HBV.out.kept (HWR.out.trans M.kept)) (nbw_len _ _) (nbw_small _ _)).mono ?_
      rintro e w4 ⟨rfl, K⟩
      replace M := M.call K
      refine ⟨_, rfl, K.mono (by simp), M, ?_⟩
      clear K
      simp only [Act.put, List.setIfInBounds_toArray, List.set_cons_zero, List.set_cons_succ]
      refine E_call rfl Salg.func96 (by kernel_rfl) (by kernel_rfl) (args := [cu]) rfl ?_
      intro w1 K M
      clear K
      refine (bytesOf_all cu ds _ (HCU.out.kept (HWR.out.trans M.kept))).mono ?_
      rintro e w5 ⟨cv, rfl, xHCV, K⟩
      have HCV := hid xHCV
      clear xHCV
      replace M := M.call K
      refine ⟨_, rfl, K.mono (by simp), M, ?_⟩
      clear K
      simp only [Act.put, List.setIfInBounds_toArray, List.set_cons_zero, List.set_cons_succ]
      ((with_reducible apply E_run (v := .agg (oaG [a0, a1, a2, a3, a4, a5, a6, a7, a8, a9, a10, a11, a12, a13, a14, a15, a16, a17, a18, a19] N (nbw 32 B) cv nilS).toArray)); rfl; rfl; (intro w M; obtain ⟨p0, q0, s0, e0⟩ := HCV.out.slice; subst e0; kernel_rfl); simp only [Act.put, List.setIfInBounds_toArray, List.set_cons_zero, List.set_cons_succ])
      refine E_nil ?_
      intro w6 K M
      replace HCV := hid (HCV.out.kept K)
      clear K
      intro t6 w7 K ht6 M
      replace HCV := hid (HCV.out.kept K)
      clear K
      simp only [Act.put, List.setIfInBounds_toArray, List.set_cons_zero, List.set_cons_succ]
      refine S_seg 13 14 (by kernel_rfl) (by decide) ?_
      simp only [List.take_succ_cons, List.take_zero, List.drop_zero, List.drop_succ_cons, Nat.sub_zero, Nat.reduceSub]
      have NB6 := hid (not_bytes_at (cs := (z8 20 ++ [n64 0] ++ z8 32 ++ [nilS, nilS]).toArray) (tc := 123) (i := 53) (p := none) (n := 0) (m := 0) (by kernel_rfl))
      have HONE := hid (oaG_one (a := [a0, a1, a2, a3, a4, a5, a6, a7, a8, a9, a10, a11, a12, a13, a14, a15, a16, a17, a18, a19]) (N := N) (bal := nbw 32 B) (st := nilS) HCV.out.one rfl)
      have HSZ : Hid ((oaG [a0, a1, a2, a3, a4, a5, a6, a7, a8, a9, a10, a11, a12, a13, a14, a15, a16, a17, a18, a19] N (nbw 32 B) cv nilS).toArray.size = 55) := by
        show _ = _
        rw [List.size_toArray]
        exact oaG_len rfl (nbw_len _ _)
      have HO1 : Hid (∀ u ∈ (oaG [a0, a1, a2, a3, a4, a5, a6, a7, a8, a9, a10, a11, a12, a13, a14, a15, a16, a17, a18, a19] N (nbw 32 B) cv nilS).toArray.toList, u.oneCell' = true) := HONE.out
      go_wp2_with ((with_reducible apply W_storeK (b := t6) (vs := (oaG [a0, a1, a2, a3, a4, a5, a6, a7, a8, a9, a10, a11, a12, a13, a14, a15, a16, a17, a18, a19] N (nbw 32 B) cv nilS).toArray)); rfl; rfl; exact M.r0; exact size123; exact HSZ.out; exact HO1.out; intro w8 K hr3; replace HCV := hid (HCV.out.keptC K M.r0 NB6.out); replace M := Mem.callPut (L1 := []) M (Or.inr ht6) K hr3; clear K hr3; simp only [List.nil_append] at M)
      refine S_done ?_
      have HO6 := hid (own_new HO.out ht6)
      go_wp2_with ((with_reducible apply W_loadCell); rfl; exact M.r1; exact (show (⟨[a0, a1, a2, a3, a4, a5, a6, a7, a8, a9, a10, a11, a12, a13, a14, a15, a16, a17, a18, a19], [nv, bv, cu, nilS]⟩ : Ac).cells.toArray[23]? = some nilS by kernel_rfl); exact Salg.underlying126; rfl; simp only [Act.put, List.setIfInBounds_toArray, List.set_cons_zero, List.set_cons_succ])
      go_loopw [36] (fun iv wx => iv = .int .i64 0 ∧ Mem wr [] [(t6, .cells (oaG [a0, a1, a2, a3, a4, a5, a6, a7, a8, a9, a10, a11, a12, a13, a14, a15, a16, a17, a18, a19] N (nbw 32 B) cv nilS).toArray 123 (0, 0)), (t5, .cells (⟨[a0, a1, a2, a3, a4, a5, a6, a7, a8, a9, a10, a11, a12, a13, a14, a15, a16, a17, a18, a19], [nv, bv, cu, nilS]⟩ : Ac).cells.toArray 128 (0, 0))] wx ∧ NatV wx cv ds) (fun _ _ => 0)
      case atStart => exact ⟨rfl, M, HCV.out⟩
      case round =>
        clear M HCV
        obtain ⟨rfl, M, xC⟩ := hrel
        have HCV := hid xC
        clear xC
        replace HP := hid (HP.out.kept M.kept)
        replace HO := hid (own_kept HO.out M.kept)
        have h6r := M.r0
        replace M := (MW.call M.kept).add h6r (by simp)
        have hbw := M.kept.size
        go_wp2_with (first
          | ((with_reducible apply W_loadAll); rfl; exact M.r0; exact Salg.underlying123; rfl; (rw [HSZ.out]; exact size123); simp only [Act.put, List.setIfInBounds_toArray, List.set_cons_zero, List.set_cons_succ])
          | ((with_reducible apply W_buildIt (vs := (oaG [a0, a1, a2, a3, a4, a5, a6, a7, a8, a9, a10, a11, a12, a13, a14, a15, a16, a17, a18, a19] N (nbw 32 B) cv nilS).toArray) (s := 55) M); rfl; rfl; exact Salg.underlying38; exact size123; exact zero123s; exact HSZ.out; decide; decide; clear M; intro bn wb hbn hbn2 KB M; have HBN := hid (own_new HO.out hbn2); replace HO := hid (own_kept HO.out KB); replace HP := hid (HP.out.kept KB); replace HCV := hid (HCV.out.kept KB); replace hbw := Nat.le_trans hbw KB.size; clear KB; simp only [Act.put, List.setIfInBounds_toArray, List.set_cons_zero, List.set_cons_succ])
          | ((with_reducible apply W_appendIt (base := w.heap.size) (n := i) (m := 1) (s := 55) (bn := bn) (so := 0) (news := (oaG [a0, a1, a2, a3, a4, a5, a6, a7, a8, a9, a10, a11, a12, a13, a14, a15, a16, a17, a18, a19] N (nbw 32 B) cv nilS)) (cs := (oaG [a0, a1, a2, a3, a4, a5, a6, a7, a8, a9, a10, a11, a12, a13, a14, a15, a16, a17, a18, a19] N (nbw 32 B) cv nilS).toArray) M); exact info123; exact Salg.underlying38; rfl; decide; decide; rfl; rfl; exact HO.out; omega; exact M.r0; exact HSZ.out; exact cells_news _; exact HONE.out; exact Nat.le_refl _; exact hbw; exact apart2 HBN.out HO6.out; clear M; intro VV wc M xO hb3 KA; have HKO := hid (OutsD.keptO (fun d hd => (HDD.out d hd).1) HO.out HNL.out HLE.out HP.out KA); replace HP := hid (fun j x o e1 e2 => HKO.out o x.ds (HP.out j x o e1 e2)); replace HCV := hid (HKO.out _ _ HCV.out); replace HO := hid xO; clear xO hb3 KA HKO; simp only [Act.put, List.setIfInBounds_toArray, List.set_cons_zero, List.set_cons_succ]))
        go_roundw
        case rel =>
          refine ⟨i + 1, os ++ [cv], by omega, by go_num, by simp [HOL.out], by simp, M.tail.tail, ?_, ?_⟩
          · rw [outD_snoc D os _ _ (by rw [HOL.out]; exact HXI.out)]
            exact HO.out
          · intro j x o e1 e2
            rcases Nat.lt_or_ge j os.length with hj | hj
            · rw [List.getElem?_append_left hj] at e2
              exact HP.out j x o e1 e2
            · have hje : j = os.length := by
                have := (List.getElem?_eq_some_iff.1 e2).1
                simp at this
                omega
              subst hje
              rw [HOL.out, HXI.out] at e1
              simp at e2
              cases e1
              subst e2
              exact HCV.out
        case measure => simp [intOf]; omega
    · have e : i = m := by omega
      have HE := hid e
      clear e
      go_wp2_with fail
      go_ret
      refine ⟨_, os, rfl, by rw [HOL.out, HE.out, HN.out], ?_, HP.out, HWR.out⟩
      have h := HO.out
      rw [HE.out, HN.out] at h
      exact h
end Go.Proofs.YgcsalGreat

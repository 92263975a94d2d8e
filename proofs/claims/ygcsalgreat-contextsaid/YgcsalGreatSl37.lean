/-
  The walk of (*yp.Chain).Export on accounts that are not empty and have no slot or one.
-/
import Derived.Test.YgcsalGreatSl19
import Derived.Test.YgcsalGreatMv35
import Derived.Test.YgcsalGreatMv29
import Derived.Test.YgcsalGreatSl14
set_option linter.unusedSimpArgs false
set_option linter.unusedVariables false
namespace Go.Own
/-- An account and what its cells hold. -/
structure XA where
  n : Nat
  nv : Value
  bv : Value
  cu : Value
  sl : Value
  bal : List Nat
  ds : List Nat
  so : Option (List Nat × List Nat)
def XA.ac (x : XA) : Ac := acN x.n x.nv x.bv x.cu x.sl
structure XA.Ok (x : XA) (w : World) : Prop where
  nv : NumV w x.nv 1
  bv : NumV w x.bv (be x.bal)
  bl : x.bal.length = 32
  bs : Small x.bal
  cu : NatV w x.cu x.ds
  sl : SlotV w x.sl (x.so.map fun p => (be p.1, be p.2))
  sk : ∀ p, x.so = some p → p.1.length = 32 ∧ Small p.1 ∧ p.2.length = 32 ∧ Small p.2
theorem XA.Ok.kept {x : XA} {w w' : World} (h : x.Ok w) (k : Kept [] w w') : x.Ok w' := ⟨h.nv.kept k, h.bv.kept k, h.bl, h.bs, h.cu.kept k, h.sl.kept k, h.sk⟩
/-- The slots that Export lays. -/
def SlotsO (w : World) (sv : Value) : Option (List Nat × List Nat) → Prop
  | none => sv = nilS
  | some p => ∃ g cap cur, sv = .slice (some ⟨g, 0, none⟩) 1 cap ∧ w.heap[g]? = some (.cells cur 171 (0, 0)) ∧ 64 ≤ cur.size ∧ cur.extract 0 (0 + 64) = ((p.1 ++ p.2).map n8).toArray
theorem SlotsO.kept {w w' : World} {sv : Value} : ∀ {o : Option (List Nat × List Nat)}, SlotsO w sv o → Kept [] w w' → SlotsO w' sv o
  | none, h, _ => h
  | some p, h, k => by
    obtain ⟨g, cap, cur, h1, h2, h3, h4⟩ := h
    exact ⟨g, cap, cur, h1, k.row h2 (by simp), h3, h4⟩
theorem SlotsO.keptC {w w' : World} {sv : Value} {c tc : Nat} {cs : Array Value} (k : Kept [c] w w') (hr : w.heap[c]? = some (.cells cs tc (0, 0))) (ht : tc ≠ 171) : ∀ {o : Option (List Nat × List Nat)}, SlotsO w sv o → SlotsO w' sv o
  | none, h => h
  | some p, h => by
    obtain ⟨g, cap, cur, h1, h2, h3, h4⟩ := h
    exact ⟨g, cap, cur, h1, k.row h2 (row_ne hr h2 (by rintro h; cases h; exact ht rfl)), h3, h4⟩
theorem SlotsO.one {w : World} {sv : Value} : ∀ {o : Option (List Nat × List Nat)}, SlotsO w sv o → sv.oneCell' = true
  | none, h => by rw [show sv = nilS from h]; rfl
  | some p, h => by obtain ⟨g, cap, cur, rfl, _⟩ := h; rfl
structure XOut (x : XA) (w : World) (o : Value × Value) : Prop where
  c : NatV w o.1 x.ds
  s : SlotsO w o.2 x.so
  b : x.bal.length = 32
theorem XOut.kept {x : XA} {w w' : World} {o : Value × Value} (h : XOut x w o) (k : Kept [] w w') : XOut x w' o := ⟨h.c.kept k, h.s.kept k, h.b⟩
def outL : List XA → List (Value × Value) → List Value
  | x :: xs, o :: os => oaS x.n 1 x.bal o.1 o.2 ++ outL xs os
  | _, _ => []
theorem outL_nil (xs : List XA) : outL xs [] = [] := by cases xs <;> rfl
theorem outL_snoc : ∀ (xs : List XA) (os : List (Value × Value)) (x : XA) (o : Value × Value), xs[os.length]? = some x → outL xs (os ++ [o]) = outL xs os ++ oaS x.n 1 x.bal o.1 o.2
  | [], os, x, o, h => by simp at h
  | y :: xs, [], x, o, h => by
    simp at h
    subst h
    simp [outL]
  | y :: xs, p :: os, x, o, h => by
    simp at h
    simp only [List.cons_append, outL, outL_snoc xs os x o h, List.append_assoc]
def OutsV (xs : List XA) (w : World) (os : List (Value × Value)) : Prop := ∀ (j : Nat) (x : XA) (o : Value × Value), xs[j]? = some x → os[j]? = some o → XOut x w o
theorem OutsV.kept {xs : List XA} {w w' : World} {os : List (Value × Value)} (h : OutsV xs w os) (k : Kept [] w w') : OutsV xs w' os := fun j x o h1 h2 => (h j x o h1 h2).kept k
theorem oaS_53 {n N : Nat} {bal : List Nat} {code st : Value} (h : bal.length = 32) : (oaS n N bal code st)[53]? = some code := by
  simp only [oaS]
  rw [List.getElem?_append_right (by simp [ad]), List.getElem?_append_right (by simp [ad]), List.getElem?_append_right (by simp [ad, h])]
  simp [ad, h]
theorem oaS_54 {n N : Nat} {bal : List Nat} {code st : Value} (h : bal.length = 32) : (oaS n N bal code st).toArray[54]? = some st := by
  rw [List.getElem?_toArray]
  simp only [oaS]
  rw [List.getElem?_append_right (by simp [ad]), List.getElem?_append_right (by simp [ad]), List.getElem?_append_right (by simp [ad, h])]
  simp [ad, h]
theorem oaS_set {n N : Nat} {bal : List Nat} {code st v : Value} (h : bal.length = 32) : (oaS n N bal code st).toArray.setIfInBounds 54 v = (oaS n N bal code v).toArray := by
  simp only [oaS, List.setIfInBounds_toArray]
  rw [List.set_append_right _ _ (by simp [ad]), List.set_append_right _ _ (by simp [ad]), List.set_append_right _ _ (by simp [ad, h])]
  simp [ad, h]
theorem oaS_size {n N : Nat} {bal : List Nat} {code st : Value} (h : bal.length = 32) : (oaS n N bal code st).toArray.size = 55 := by simp [oaS, ad, h]
theorem list32 {α : Type} : ∀ {l : List α}, l.length = 32 → ∃ b0 b1 b2 b3 b4 b5 b6 b7 b8 b9 b10 b11 b12 b13 b14 b15 b16 b17 b18 b19 b20 b21 b22 b23 b24 b25 b26 b27 b28 b29 b30 b31, l = [b0, b1, b2, b3, b4, b5, b6, b7, b8, b9, b10, b11, b12, b13, b14, b15, b16, b17, b18, b19, b20, b21, b22, b23, b24, b25, b26, b27, b28, b29, b30, b31]
  | [b0, b1, b2, b3, b4, b5, b6, b7, b8, b9, b10, b11, b12, b13, b14, b15, b16, b17, b18, b19, b20, b21, b22, b23, b24, b25, b26, b27, b28, b29, b30, b31], _ => ⟨b0, b1, b2, b3, b4, b5, b6, b7, b8, b9, b10, b11, b12, b13, b14, b15, b16, b17, b18, b19, b20, b21, b22, b23, b24, b25, b26, b27, b28, b29, b30, b31, rfl⟩
theorem one2 {a b : Value} (h1 : a.oneCell' = true) (h2 : b.oneCell' = true) : ∀ u ∈ (#[a, b] : Array Value).toList, u.oneCell' = true := by
  intro u hu
  simp at hu
  rcases hu with rfl | rfl
  · exact h1
  · exact h2
theorem OutsV.keptO {xs : List XA} {w w' : World} {os : List (Value × Value)} {base i : Nat} {lv : Value} (hO : w.ownsRow base 123 55 lv i (outL xs os)) (h0 : os = [] → lv = nilS) (hl : os.length ≤ xs.length) (h : OutsV xs w os) (K : Kept lv.ownBlock.toList w w') : ∀ (x : XA) (o : Value × Value), XOut x w o → XOut x w' o := by
  intro x o hx
  cases os with
  | nil =>
    rw [h0 rfl] at K
    exact hx.kept K
  | cons q os =>
    cases xs with
    | nil => simp at hl
    | cons y xs =>
      have hq := h 0 y q rfl rfl
      obtain ⟨p, a, b, e⟩ := hq.c.slice
      have hk : (outL (y :: xs) (q :: os))[53]? = some (.slice p a b) := by
        rw [outL, List.getElem?_append_left (by rw [oaS_len hq.b]; decide), oaS_53 hq.b, e]
      rcases own_nb hO hk with h1 | ⟨g, cur, h1, h2, h3⟩
      · rw [h1] at K
        exact hx.kept K
      · rw [h1] at K
        exact ⟨hx.c.keptC K h2 h3, SlotsO.keptC K h2 (by decide) hx.s, hx.b⟩
theorem own_slots {w : World} {base : Nat} {v : Value} {p : List Nat × List Nat} (h : w.ownsRow base 171 64 v 1 ((p.1 ++ p.2).map n8)) (hl : (p.1 ++ p.2).length = 64) : SlotsO w v (some p) := by
  rcases h.2 with ⟨_, h1⟩ | ⟨g, cap, cur, h1, h2, h3, h4, h5, h6, h7⟩
  · omega
  · refine ⟨g, cap, cur, h1, h3, by omega, ?_⟩
    apply Array.ext_getElem?
    intro k
    rw [← h7]
    rcases Nat.lt_or_ge k 64 with hk | hk
    · rw [Array.getElem?_extract, if_pos (by omega)]
      simp [List.getElem?_take, hk]
    · rw [Array.getElem?_extract, if_neg (by omega), List.getElem?_toArray, List.getElem?_eq_none (by simp; omega)]
end Go.Own
namespace Go.Proofs.YgcsalGreat
open Go.RowKit Go.Own
theorem size171 : (Salg.prog.info? 171).map (·.size) = some 64 := by kernel_rfl
theorem info171 : (Salg.prog.info? 171).map (fun i => (i.zero, i.size, i.bytes)) = some (some (.agg (z8 64).toArray), 64, 64) := by kernel_rfl
theorem zero171s : ((Salg.prog.info? 171).bind (·.zero)).isSome = true := by kernel_rfl
theorem size121 : (Salg.prog.info? 121).map (·.size) = some 1 := by kernel_rfl

set_option maxHeartbeats 4000000 in
set_option maxRecDepth 100000 in
theorem export_any (c tc : Nat) (cs : Array Value) (va : Value) (xs : List XA) (w : World) (hc : w.heap[c]? = some (.cells cs tc (0, 0))) (h0 : cs[0]? = some va) (hv : AcsV w va (xs.map XA.ac)) (hx : ∀ x ∈ xs, x.Ok w) (hn : xs.length ≤ 20) :
    Calls Salg.prog 30 #[.pointer (some ⟨c, 0, none⟩)] w fun e w' => ∃ (v : Value) (os : List (Value × Value)), e = .returned v ∧ os.length = xs.length ∧ w'.ownsRow w.heap.size 123 55 v xs.length (outL xs os) ∧ OutsV xs w' os ∧ Kept [] w w' := by
  have M := Mem.start w []
  have HV := hid hv
  have HX := hid hx
  clear hv hx
  obtain ⟨p, m, cap, rfl, hn'⟩ : ∃ p n cap, va = .slice p n cap ∧ n = (xs.map XA.ac).length := by
    rcases HV.out.own.2 with ⟨h1, h2⟩ | ⟨g, cap, cur, h1, _⟩
    · exact ⟨none, 0, 0, h1, h2.symm⟩
    · exact ⟨_, _, _, h1, rfl⟩
  rw [List.length_map] at hn'
  have HN := hid hn'
  have hm20 : m ≤ 20 := by omega
  clear hn' hn
  go_enter Salg.func30, Salg.ntmps30
  go_wp2_with ((with_reducible apply W_loadCell); rfl; exact M.kept.row hc (by simp); exact h0; exact Salg.underlying108; rfl; simp only [Act.put, List.setIfInBounds_toArray, List.set_cons_zero, List.set_cons_succ])
  go_loopw [3, 16] (fun lv iv wr => ∃ (i : Nat) (os : List (Value × Value)), i ≤ m ∧ iv = .int .i64 i ∧ os.length = i ∧ (os = [] → lv = nilS) ∧ Mem w [] [] wr ∧ wr.ownsRow w.heap.size 123 55 lv i (outL xs os) ∧ OutsV xs wr os) (fun _ iv _ => (m - intOf iv).toNat)
  case atStart => exact ⟨0, [], by omega, rfl, rfl, fun _ => rfl, M, by rw [outL_nil]; exact own_nil _ _ _ _, by intro j x o h1 h2; simp at h2⟩
  case round =>
    clear M
    obtain ⟨i, os, hi, rfl, hol, xnil, MW, xO, xP⟩ := hrel
    have HO := hid xO
    have HP := hid xP
    have HNL := hid xnil
    have HOL := hid hol
    have HWR := hid MW.kept
    clear xO xP xnil hol
    generalize hlv : u3 = lv at *
    rcases Nat.lt_or_ge i m with hlt | hge
    · have hixs : i < xs.length := by rw [← HN.out]; exact hlt
      have hil : i < (xs.map XA.ac).length := by rw [List.length_map]; exact hixs
      obtain ⟨g, cap', cur, hpe, hrg, hsz, hex⟩ := HV.out.at hil
      have hpp : p = some ⟨g, 0, none⟩ := by injection hpe
      subst hpp
      clear hpe
      rw [List.getElem_map] at hex
      have HXI : Hid (xs[i]? = some xs[i]) := List.getElem?_eq_getElem hixs
      have HX1 := hid (HX.out xs[i] (List.getElem_mem hixs))
      have HOK := hid (HV.out.ok _ (List.getElem_mem hil))
      rw [List.getElem_map] at HOK
      have HLE : Hid (os.length ≤ xs.length) := by rw [HOL.out]; exact Nat.le_of_lt hixs
      generalize xs[i] = x at *
      obtain ⟨n, nv, bv, cu, sl, bal, ds, so⟩ := x
      have HEX : Hid (cur.extract (i * 24) (i * 24 + 24) = (acN n nv bv cu sl).cells.toArray) := hex
      have HNV : Hid (NumV w nv 1) := HX1.out.nv
      have HBV : Hid (NumV w bv (be bal)) := HX1.out.bv
      have HBL : Hid (bal.length = 32) := HX1.out.bl
      have HBS : Hid (Small bal) := HX1.out.bs
      have HCU : Hid (NatV w cu ds) := HX1.out.cu
      have HSL : Hid (SlotV w sl (so.map fun p => (be p.1, be p.2))) := HX1.out.sl
      have HSK : Hid (∀ p, so = some p → p.1.length = 32 ∧ Small p.1 ∧ p.2.length = 32 ∧ Small p.2) := HX1.out.sk
      replace HOK : Hid ((acN n nv bv cu sl).Ok) := HOK.out
      clear HX1 hex hixs hil
      have M := Mem.start wr []
      go_wp2_with (first
        | ((with_reducible apply W_load (n := 24) (o := i * 24)); rfl; exact HWR.out.row hrg (by simp); exact Salg.underlying128; rfl; exact size128; exact hsz; rw [HEX.out]; simp only [Act.put, List.setIfInBounds_toArray, List.set_cons_zero, List.set_cons_succ])
        | ((with_reducible apply L_allocA (d := 5) M); exact zero128; clear M; intro t5 w1 ht5 M; simp only [Act.put, List.setIfInBounds_toArray, List.set_cons_zero, List.set_cons_succ])
        | ((with_reducible apply W_storeK (b := t5) (vs := (acN n nv bv cu sl).cells.toArray)); rfl; rfl; exact M.r0; exact size128; rfl; exact oneT (acN_one (n := n) HNV.out.one HBV.out.one HCU.out.one HSL.out.one); intro w3 K hr3; replace M := Mem.callPut (L1 := []) M (Or.inr ht5) K hr3; clear K hr3; simp only [List.nil_append] at M))
      refine (empty_no t5 (acN n nv bv cu sl) nv 1 _ M.r0 HOK.out rfl (HNV.out.kept (HWR.out.trans M.kept)) (by decide)).mono ?_
      rintro e w2 ⟨rfl, K⟩
      replace M := M.call K
      clear K
      go_wp2_with fail
      refine S_region (by kernel_rfl) ?_
      refine E_float 0 13 [0, 1, 2, 3, 5, 6, 8, 9, 4, 7, 10, 11] 12 6 _ (by kernel_rfl) ⟨⟨_, _, _, _, _, rfl, zero123, rfl⟩⟩ (by simp) M.drew ?_
      clear M
      simp only [List.filterMap_cons, List.filterMap_nil, List.getElem?_cons_zero, List.getElem?_cons_succ]
      ((with_reducible apply E_run); rfl; rfl; (intro w M; go_simp; (try go_ints); (try simp only [↓IntWalk.iteOmega]); (try with_reducible rfl)); simp only [Act.put, List.setIfInBounds_toArray, List.set_cons_zero, List.set_cons_succ])
      ((with_reducible apply E_run (v := .agg ((ad n).map n8).toArray)); rfl; rfl; (intro w M; exact run_loadX (n := 20) M.r0 rfl Salg.underlying45 rfl size45 (Nat.le_of_ble_eq_true (by kernel_rfl)) (show (acN n nv bv cu sl).cells.toArray.extract 0 (0 + 20) = _ by kernel_rfl)); simp only [Act.put, List.setIfInBounds_toArray, List.set_cons_zero, List.set_cons_succ])
      ((with_reducible apply E_run); rfl; rfl; (intro w M; go_simp; (try go_ints); (try simp only [↓IntWalk.iteOmega]); (try with_reducible rfl)); simp only [Act.put, List.setIfInBounds_toArray, List.set_cons_zero, List.set_cons_succ])
      ((with_reducible apply E_run); rfl; rfl; (intro w M; exact run_loadCell (M.r0) rfl (show (acN n nv bv cu sl).cells.toArray[20]? = some nv by kernel_rfl) Salg.underlying89 rfl); simp only [Act.put, List.setIfInBounds_toArray, List.set_cons_zero, List.set_cons_succ])
      ((with_reducible apply E_run); rfl; rfl; (intro w M; go_simp; (try go_ints); (try simp only [↓IntWalk.iteOmega]); (try with_reducible rfl)); simp only [Act.put, List.setIfInBounds_toArray, List.set_cons_zero, List.set_cons_succ])
      ((with_reducible apply E_run); rfl; rfl; (intro w M; exact run_loadCell (M.r0) rfl (show (acN n nv bv cu sl).cells.toArray[21]? = some bv by kernel_rfl) Salg.underlying89 rfl); simp only [Act.put, List.setIfInBounds_toArray, List.set_cons_zero, List.set_cons_succ])
      ((with_reducible apply E_run); rfl; rfl; (intro w M; go_simp; (try go_ints); (try simp only [↓IntWalk.iteOmega]); (try with_reducible rfl)); simp only [Act.put, List.setIfInBounds_toArray, List.set_cons_zero, List.set_cons_succ])
      ((with_reducible apply E_run); rfl; rfl; (intro w M; exact run_loadCell (M.r0) rfl (show (acN n nv bv cu sl).cells.toArray[22]? = some cu by kernel_rfl) Salg.underlying40 rfl); simp only [Act.put, List.setIfInBounds_toArray, List.set_cons_zero, List.set_cons_succ])
      refine E_call rfl Salg.func101 (by kernel_rfl) (by kernel_rfl) (args := [nv]) rfl ?_
      intro w1 K M
      clear K
      refine (small_any nv 1 _ (HNV.out.kept (HWR.out.trans M.kept)) (by decide)).mono ?_
      rintro e w3 ⟨rfl, hw⟩
      replace hw := hw.symm
      subst hw
      refine ⟨_, rfl, Kept.refl _ _, M, ?_⟩
      simp only [Act.put, List.setIfInBounds_toArray, List.set_cons_zero, List.set_cons_succ]
      refine E_call rfl Salg.func102 (by kernel_rfl) (by kernel_rfl) (args := [bv]) rfl ?_
      intro w1 K M
      clear K
      refine (word_any bv bal _ (HBV.out.kept (HWR.out.trans M.kept)) HBL.out HBS.out).mono ?_
      rintro e w4 ⟨rfl, K⟩
      replace M := M.call K
      refine ⟨_, rfl, K.mono (by simp), M, ?_⟩
      clear K
      simp only [Act.put, List.setIfInBounds_toArray, List.set_cons_zero, List.set_cons_succ]
      refine E_call rfl Salg.func96 (by kernel_rfl) (by kernel_rfl) (args := [cu]) rfl ?_
      intro w1 K M
      clear K
      refine (bytesOf_all cu ds _ (HCU.out.kept (HWR.out.trans M.kept))).mono ?_
      rintro e w5 ⟨cv, rfl, xHCV, K⟩
      have HCV := hid xHCV
      clear xHCV
      replace M := M.call K
      refine ⟨_, rfl, K.mono (by simp), M, ?_⟩
      clear K
      simp only [Act.put, List.setIfInBounds_toArray, List.set_cons_zero, List.set_cons_succ]
      ((with_reducible apply E_run (v := .agg (oaS n 1 bal cv nilS).toArray)); rfl; rfl; (intro w M; obtain ⟨p0, q0, s0, e0⟩ := HCV.out.slice; obtain ⟨b0, b1, b2, b3, b4, b5, b6, b7, b8, b9, b10, b11, b12, b13, b14, b15, b16, b17, b18, b19, b20, b21, b22, b23, b24, b25, b26, b27, b28, b29, b30, b31, eb⟩ := list32 HBL.out; subst e0 eb; kernel_rfl); simp only [Act.put, List.setIfInBounds_toArray, List.set_cons_zero, List.set_cons_succ])
      refine E_nil ?_
      intro w6 K M
      replace HCV := hid (HCV.out.kept K)
      clear K
      intro t6 w7 K ht6 M
      replace HCV := hid (HCV.out.kept K)
      clear K
      simp only [Act.put, List.setIfInBounds_toArray, List.set_cons_zero, List.set_cons_succ]
      refine S_seg 13 14 (by kernel_rfl) (by decide) ?_
      simp only [List.take_succ_cons, List.take_zero, List.drop_zero, List.drop_succ_cons, Nat.sub_zero, Nat.reduceSub]
      have NB6 := hid (not_bytes_at (cs := (z8 20 ++ [n64 0] ++ z8 32 ++ [nilS, nilS]).toArray) (tc := 123) (i := 53) (p := none) (n := 0) (m := 0) (by kernel_rfl))
      have HO1 := hid (oaS_one (n := n) (N := 1) (bal := bal) (st := nilS) HCV.out.one rfl)
      have HSZ : Hid ((oaS n 1 bal cv nilS).toArray.size = 55) := oaS_size HBL.out
      go_wp2_with ((with_reducible apply W_storeK (b := t6) (vs := (oaS n 1 bal cv nilS).toArray)); rfl; rfl; exact M.r0; exact size123; exact HSZ.out; exact HO1.out; intro w8 K hr3; replace HCV := hid (HCV.out.keptC K M.r0 NB6.out); replace M := Mem.callPut (L1 := []) M (Or.inr ht6) K hr3; clear K hr3; simp only [List.nil_append] at M)
      refine S_done ?_
      have HO6 := hid (own_new HO.out ht6)
      cases so with
      | none =>
        have hsl : sl = nilS := HSL.out
        subst hsl
        go_wp2_with ((with_reducible apply W_loadCell); rfl; exact M.r1; exact (show (acN n nv bv cu nilS).cells.toArray[23]? = some nilS by kernel_rfl); exact Salg.underlying126; rfl; simp only [Act.put, List.setIfInBounds_toArray, List.set_cons_zero, List.set_cons_succ])
        go_loopw [36] (fun iv wx => iv = .int .i64 0 ∧ Mem wr [] [(t6, .cells (oaS n 1 bal cv nilS).toArray 123 (0, 0)), (t5, .cells (acN n nv bv cu nilS).cells.toArray 128 (0, 0))] wx ∧ NatV wx cv ds) (fun _ _ => 0)
        case atStart => exact ⟨rfl, M, HCV.out⟩
        case round =>
        clear M HCV
        obtain ⟨rfl, M, xC⟩ := hrel
        have HCV := hid xC
        clear xC
        have HSO : Hid (SlotsO wr nilS none) := rfl
        have HONE := hid (oaS_one (n := n) (N := 1) (bal := bal) HCV.out.one HSO.out.one)
        have HSZ2 : Hid ((oaS n 1 bal cv nilS).toArray.size = 55) := oaS_size HBL.out
        replace HP := hid (HP.out.kept M.kept)
        replace HO := hid (own_kept HO.out M.kept)
        have h6r := M.r0
        replace M := (MW.call M.kept).add h6r (by simp)
        have hbw := M.kept.size
        have HXO : Hid (XOut ⟨n, nv, bv, cu, nilS, bal, ds, none⟩ wr (cv, nilS)) := ⟨HCV.out, HSO.out, HBL.out⟩
        go_wp2_with (first
          | ((with_reducible apply W_loadAll); rfl; exact M.r0; exact Salg.underlying123; rfl; (rw [HSZ2.out]; exact size123); simp only [Act.put, List.setIfInBounds_toArray, List.set_cons_zero, List.set_cons_succ])
          | ((with_reducible apply W_buildIt (vs := (oaS n 1 bal cv nilS).toArray) (s := 55) M); rfl; rfl; exact Salg.underlying38; exact size123; exact zero123s; exact HSZ2.out; decide; decide; clear M; intro bn wb hbn hbn2 KB M; have HBN := hid (own_new HO.out hbn2); replace HO := hid (own_kept HO.out KB); replace HP := hid (HP.out.kept KB); replace HXO := hid (HXO.out.kept KB); replace hbw := Nat.le_trans hbw KB.size; clear KB; simp only [Act.put, List.setIfInBounds_toArray, List.set_cons_zero, List.set_cons_succ])
          | ((with_reducible apply W_appendIt (base := w.heap.size) (n := i) (m := 1) (s := 55) (bn := bn) (so := 0) (news := (oaS n 1 bal cv nilS)) (cs := (oaS n 1 bal cv nilS).toArray) M); exact info123; exact Salg.underlying38; rfl; decide; decide; rfl; rfl; exact HO.out; omega; exact M.r0; exact HSZ2.out; exact cells_news _; exact HONE.out; exact Nat.le_refl _; exact hbw; exact apart2 HBN.out HO6.out; clear M; intro VV wy M xO hb3 KA; replace HXO := hid (OutsV.keptO HO.out HNL.out HLE.out HP.out KA _ _ HXO.out); replace HP : Hid (OutsV xs wy os) := (fun j x o e1 e2 => OutsV.keptO HO.out HNL.out HLE.out HP.out KA x o (HP.out j x o e1 e2)); replace HO := hid xO; clear xO KA; simp only [Act.put, List.setIfInBounds_toArray, List.set_cons_zero, List.set_cons_succ]))
        go_roundw
        case rel =>
          refine ⟨i + 1, os ++ [(cv, nilS)], by omega, by go_num, by simp [HOL.out], by simp, M.tail.tail, ?_, ?_⟩
          · rw [outL_snoc xs os _ _ (by rw [HOL.out]; exact HXI.out)]
            exact HO.out
          · intro j x o e1 e2
            rcases Nat.lt_or_ge j os.length with hj | hj
            · rw [List.getElem?_append_left hj] at e2
              exact HP.out j x o e1 e2
            · have hje : j = os.length := by
                have := (List.getElem?_eq_some_iff.1 e2).1
                simp at this
                omega
              subst hje
              rw [HOL.out, HXI.out] at e1
              simp at e2
              cases e1
              subst e2
              exact HXO.out
        case measure => simp [intOf]; omega
      | some p =>
        obtain ⟨kb, vb⟩ := p
        obtain ⟨k1, k2, k3, k4⟩ := HSK.out _ rfl
        simp only at k1 k2 k3 k4
        have HK2 := hid k2
        have HK4 := hid k4
        have HKL : Hid ((kb ++ vb).length = 64) := by show _ = _; rw [List.length_append, k1, k3]
        obtain ⟨gs, scap, scur, kv, vv, hsl, hgs, hk0, hk1, xkN, xvN⟩ := HSL.out
        subst hsl
        have HKN : Hid (NumV w kv (be kb)) := xkN
        have HVN : Hid (NumV w vv (be vb)) := xvN
        clear xkN xvN k2 k4
        go_wp2_with ((with_reducible apply W_loadCell); rfl; exact M.r1; exact (show (acN n nv bv cu (.slice (some ⟨gs, 0, none⟩) 1 scap)).cells.toArray[23]? = some (.slice (some ⟨gs, 0, none⟩) 1 scap) by kernel_rfl); exact Salg.underlying126; rfl; simp only [Act.put, List.setIfInBounds_toArray, List.set_cons_zero, List.set_cons_succ])
        go_loopw [36] (fun iv wx => ∃ sv, Mem wr [] [(t6, .cells (oaS n 1 bal cv sv).toArray 123 (0, 0)), (t5, .cells (acN n nv bv cu (.slice (some ⟨gs, 0, none⟩) 1 scap)).cells.toArray 128 (0, 0))] wx ∧ NatV wx cv ds ∧ ((iv = .int .i64 0 ∧ sv = nilS) ∨ (iv = .int .i64 1 ∧ SlotsO wx sv (some (kb, vb))))) (fun iv _ => (1 - intOf iv).toNat)
        case atStart => exact ⟨nilS, M, HCV.out, .inl ⟨rfl, rfl⟩⟩
        case round =>
        clear M HCV
        obtain ⟨sv, M, xC, hcase⟩ := hrel
        have HCV := hid xC
        clear xC
        rcases hcase with ⟨rfl, rfl⟩ | ⟨rfl, xS⟩
        · have hs2 : 2 ≤ scur.size := by
            have := (Array.getElem?_eq_some_iff.1 hk1).1
            omega
          have HE2 : Hid (scur.extract 0 (0 + 2) = #[kv, vv]) := by
            apply Array.ext_getElem?
            intro k
            rcases k with _ | _ | k
            · rw [Array.getElem?_extract, if_pos (by omega)]; simpa using hk0
            · rw [Array.getElem?_extract, if_pos (by omega)]; simpa using hk1
            · rw [Array.getElem?_extract, if_neg (by omega)]; simp
          have NB6 := hid (not_bytes_at (cs := (oaS n 1 bal cv nilS).toArray) (tc := 123) (i := 54) (p := none) (n := 0) (m := 0) (oaS_54 HBL.out))
          have h6x := lt_of_row M.r0
          have h5x := lt_of_row M.r1
          have M0 := M
          replace M := Mem.start wr []
          have HWX := hid (HWR.out.trans M0.kept)
          go_wp2_with (first
            | ((with_reducible apply W_loadX (b := gs) (o := 0) (n := 2) (cs := scur) (vs := #[kv, vv])); rfl; exact (HWX.out.trans M.kept).row hgs (by simp); exact Salg.underlying133; rfl; exact size133; omega; exact HE2.out; simp only [Act.put, List.setIfInBounds_toArray, List.set_cons_zero, List.set_cons_succ])
            | ((with_reducible apply L_allocA (d := 8) M); exact zero133; clear M; intro t8 w1 ht8 M; simp only [Act.put, List.setIfInBounds_toArray, List.set_cons_zero, List.set_cons_succ])
            | ((with_reducible apply W_storeK (b := t8) (vs := #[kv, vv])); rfl; rfl; exact M.r0; exact size133; rfl; exact one2 HKN.out.one HVN.out.one; intro w3 K hr3; replace M := Mem.callPut (L1 := []) M (Or.inr ht8) K hr3; clear K hr3; simp only [List.nil_append] at M))
          have h8r := M.r0
          have HKX := hid (HWX.out.trans M.kept)
          replace HCV := hid (HCV.out.kept M.kept)
          replace M := (M0.call M.kept).add h8r (by intro p hp; simp at hp; rcases hp with rfl | rfl <;> simp <;> omega)
          clear M0
          obtain ⟨B, hB⟩ : ∃ B : Nat, B = w3.heap.size := ⟨_, rfl⟩
          have h6B : t6 < B := by rw [hB]; exact lt_of_row M.r1
          have h5B : t5 < B := by rw [hB]; exact lt_of_row M.r2
          have hwB := M.kept.size
          rw [← hB] at hwB
          have hBle := Nat.le_of_eq hB
          have K3 := Kept.refl [] w3
          refine S_region (by kernel_rfl) ?_
          replace HCV := hid (HCV.out.kept (Kept.refl [] _).drew)
          replace K3 := K3.drew
          replace hBle := Nat.le_trans hBle K3.size
          refine E_stage 0 11 [0, 1, 2, 3, 5, 6, 4, 7, 8, 9, 10] (by kernel_rfl) M.drew ?_
          clear M
          simp only [List.filterMap_cons, List.filterMap_nil, List.getElem?_cons_zero, List.getElem?_cons_succ]
          ((with_reducible apply E_run); rfl; rfl; (intro w M; go_simp; (try go_ints); (try simp only [↓IntWalk.iteOmega]); (try with_reducible rfl)); simp only [Act.put, List.setIfInBounds_toArray, List.set_cons_zero, List.set_cons_succ])
          ((with_reducible apply E_run); rfl; rfl; (intro w M; exact run_loadCell (M.r1) rfl (oaS_54 HBL.out) Salg.underlying121 rfl); simp only [Act.put, List.setIfInBounds_toArray, List.set_cons_zero, List.set_cons_succ])
          ((with_reducible apply E_run); rfl; rfl; (intro w M; go_simp; (try go_ints); (try simp only [↓IntWalk.iteOmega]); (try with_reducible rfl)); simp only [Act.put, List.setIfInBounds_toArray, List.set_cons_zero, List.set_cons_succ])
          ((with_reducible apply E_run); rfl; rfl; (intro w M; exact run_loadCell (M.r0) rfl rfl Salg.underlying89 rfl); simp only [Act.put, List.setIfInBounds_toArray, List.set_cons_zero, List.set_cons_succ])
          ((with_reducible apply E_run); rfl; rfl; (intro w M; go_simp; (try go_ints); (try simp only [↓IntWalk.iteOmega]); (try with_reducible rfl)); simp only [Act.put, List.setIfInBounds_toArray, List.set_cons_zero, List.set_cons_succ])
          ((with_reducible apply E_run); rfl; rfl; (intro w M; exact run_loadCell (M.r0) rfl rfl Salg.underlying89 rfl); simp only [Act.put, List.setIfInBounds_toArray, List.set_cons_zero, List.set_cons_succ])
          refine E_call rfl Salg.func102 (by kernel_rfl) (by kernel_rfl) (args := [kv]) rfl ?_
          intro w1 K M
          replace HCV := hid (HCV.out.kept K)
          replace K3 := K3.trans K
          replace hBle := Nat.le_trans hBle K.size
          clear K
          refine (word_any kv kb _ (HKN.out.kept (HKX.out.trans K3)) k1 HK2.out).mono ?_
          rintro e w4 ⟨rfl, K⟩
          replace HCV := hid (HCV.out.kept K)
          replace K3 := K3.trans K
          replace hBle := Nat.le_trans hBle K.size
          replace M := M.call K
          refine ⟨_, rfl, trivial, M, ?_⟩
          clear K
          simp only [Act.put, List.setIfInBounds_toArray, List.set_cons_zero, List.set_cons_succ]
          refine E_call rfl Salg.func102 (by kernel_rfl) (by kernel_rfl) (args := [vv]) rfl ?_
          intro w1 K M
          replace HCV := hid (HCV.out.kept K)
          replace K3 := K3.trans K
          replace hBle := Nat.le_trans hBle K.size
          clear K
          refine (word_any vv vb _ (HVN.out.kept (HKX.out.trans K3)) k3 HK4.out).mono ?_
          rintro e w5 ⟨rfl, K⟩
          replace HCV := hid (HCV.out.kept K)
          replace K3 := K3.trans K
          replace hBle := Nat.le_trans hBle K.size
          replace M := M.call K
          refine ⟨_, rfl, trivial, M, ?_⟩
          clear K
          simp only [Act.put, List.setIfInBounds_toArray, List.set_cons_zero, List.set_cons_succ]
          ((with_reducible apply E_run (v := .agg ((kb ++ vb).map n8).toArray)); rfl; rfl; (intro w M; obtain ⟨b0, b1, b2, b3, b4, b5, b6, b7, b8, b9, b10, b11, b12, b13, b14, b15, b16, b17, b18, b19, b20, b21, b22, b23, b24, b25, b26, b27, b28, b29, b30, b31, eb⟩ := list32 k1; obtain ⟨d0, d1, d2, d3, d4, d5, d6, d7, d8, d9, d10, d11, d12, d13, d14, d15, d16, d17, d18, d19, d20, d21, d22, d23, d24, d25, d26, d27, d28, d29, d30, d31, ed⟩ := list32 k3; subst eb ed; kernel_rfl); simp only [Act.put, List.setIfInBounds_toArray, List.set_cons_zero, List.set_cons_succ])
          refine E_buildIt (vs := ((kb ++ vb).map n8).toArray) (s := 64) rfl rfl Salg.underlying121 size171 zero171s (by simpa using HKL.out) (by decide) (by decide) ?_
          intro bn wa wb K1 hbn hbn2 K2 M
          replace HCV := hid ((HCV.out.kept K1).kept K2)
          replace hBle := Nat.le_trans hBle (Nat.le_trans K1.size K2.size)
          clear K1 K2
          simp only [Act.put, List.setIfInBounds_toArray, List.set_cons_zero, List.set_cons_succ]
          refine E_appendIt (base := B) (n := 0) (m := 1) (s := 64) (bn := bn) (so := 0) (xs := []) (news := (kb ++ vb).map n8) (cs := ((kb ++ vb).map n8).toArray) info171 Salg.underlying121 rfl (by decide) (by decide) rfl rfl (own_nil _ _ _ _) (by decide) M.r0 (by simpa using HKL.out) (cells_news _) (n8_one _) hwB hBle (by intro p _ h; cases h) ?_
          clear M
          intro VV wc wd K1 M xO hb3 K2
          replace HCV := hid ((HCV.out.kept K1).kept K2)
          have HOW := hid xO
          clear xO K1 K2
          simp only [Act.put, List.setIfInBounds_toArray, List.set_cons_zero, List.set_cons_succ]
          refine E_nil ?_
          intro w10 K M
          replace HOW := hid (own_kept HOW.out K)
          replace HCV := hid (HCV.out.kept K)
          clear K
          refine S_seg 11 13 (by kernel_rfl) (by decide) ?_
          simp only [List.take_succ_cons, List.take_zero, List.drop_zero, List.drop_succ_cons, Nat.sub_zero, Nat.reduceSub]
          have HV1 : Hid (VV.oneCell' = true) := own_one HOW.out
          go_wp2_with ((with_reducible apply W_stV (b := t6) (o := 54) (v := VV)); rfl; rfl; exact HV1.out; exact M.r1; exact size121; (rw [oaS_size HBL.out]; decide); intro w11 K hr3; rw [oaS_set HBL.out] at hr3; replace HOW := hid (own_keptC HOW.out K M.r1 (by decide)); replace HCV := hid (HCV.out.keptC K M.r1 NB6.out); replace M := Mem.callPut (L1 := [(t8, _)]) M (Or.inr ht6) K hr3; clear K hr3; simp only [List.cons_append, List.nil_append] at M)
          refine S_done ?_
          go_wp2_with fail
          go_roundw
          case rel => exact ⟨VV, M.tail, HCV.out, .inr ⟨by go_num, own_slots HOW.out HKL.out⟩⟩
          case measure => decide
        · have HSO := hid xS
          clear xS
          have HONE := hid (oaS_one (n := n) (N := 1) (bal := bal) HCV.out.one HSO.out.one)
          have HSZ2 : Hid ((oaS n 1 bal cv sv).toArray.size = 55) := oaS_size HBL.out
          replace HP := hid (HP.out.kept M.kept)
          replace HO := hid (own_kept HO.out M.kept)
          have h6r := M.r0
          replace M := (MW.call M.kept).add h6r (by simp)
          have hbw := M.kept.size
          have HXO : Hid (XOut ⟨n, nv, bv, cu, (.slice (some ⟨gs, 0, none⟩) 1 scap), bal, ds, (some (kb, vb))⟩ wr (cv, sv)) := ⟨HCV.out, HSO.out, HBL.out⟩
          go_wp2_with (first
            | ((with_reducible apply W_loadAll); rfl; exact M.r0; exact Salg.underlying123; rfl; (rw [HSZ2.out]; exact size123); simp only [Act.put, List.setIfInBounds_toArray, List.set_cons_zero, List.set_cons_succ])
            | ((with_reducible apply W_buildIt (vs := (oaS n 1 bal cv sv).toArray) (s := 55) M); rfl; rfl; exact Salg.underlying38; exact size123; exact zero123s; exact HSZ2.out; decide; decide; clear M; intro bn wb hbn hbn2 KB M; have HBN := hid (own_new HO.out hbn2); replace HO := hid (own_kept HO.out KB); replace HP := hid (HP.out.kept KB); replace HXO := hid (HXO.out.kept KB); replace hbw := Nat.le_trans hbw KB.size; clear KB; simp only [Act.put, List.setIfInBounds_toArray, List.set_cons_zero, List.set_cons_succ])
            | ((with_reducible apply W_appendIt (base := w.heap.size) (n := i) (m := 1) (s := 55) (bn := bn) (so := 0) (news := (oaS n 1 bal cv sv)) (cs := (oaS n 1 bal cv sv).toArray) M); exact info123; exact Salg.underlying38; rfl; decide; decide; rfl; rfl; exact HO.out; omega; exact M.r0; exact HSZ2.out; exact cells_news _; exact HONE.out; exact Nat.le_refl _; exact hbw; exact apart2 HBN.out HO6.out; clear M; intro VV wy M xO hb3 KA; replace HXO := hid (OutsV.keptO HO.out HNL.out HLE.out HP.out KA _ _ HXO.out); replace HP : Hid (OutsV xs wy os) := (fun j x o e1 e2 => OutsV.keptO HO.out HNL.out HLE.out HP.out KA x o (HP.out j x o e1 e2)); replace HO := hid xO; clear xO KA; simp only [Act.put, List.setIfInBounds_toArray, List.set_cons_zero, List.set_cons_succ]))
          go_roundw
          case rel =>
            refine ⟨i + 1, os ++ [(cv, sv)], by omega, by go_num, by simp [HOL.out], by simp, M.tail.tail, ?_, ?_⟩
            · rw [outL_snoc xs os _ _ (by rw [HOL.out]; exact HXI.out)]
              exact HO.out
            · intro j x o e1 e2
              rcases Nat.lt_or_ge j os.length with hj | hj
              · rw [List.getElem?_append_left hj] at e2
                exact HP.out j x o e1 e2
              · have hje : j = os.length := by
                  have := (List.getElem?_eq_some_iff.1 e2).1
                  simp at this
                  omega
                subst hje
                rw [HOL.out, HXI.out] at e1
                simp at e2
                cases e1
                subst e2
                exact HXO.out
          case measure => simp [intOf]; omega
    · have hin : i = m := by omega
      subst hin
      go_wp2_with fail
      go_ret
      exact ⟨_, os, rfl, by rw [HOL.out, HN.out], by rw [← HN.out]; exact HO.out, HP.out, MW.kept⟩
end Go.Proofs.YgcsalGreat

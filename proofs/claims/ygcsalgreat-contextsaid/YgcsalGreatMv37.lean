/-
  The walk of law.movesHolds.
-/
import Derived.Test.YgcsalGreatMv36
set_option linter.unusedSimpArgs false
set_option linter.unusedVariables false
namespace Go.Own
theorem splice_eq : ∀ (vs : List Value) (cs : Array Value) (o : Nat), o + vs.length ≤ cs.size → splice cs o vs = (cs.toList.take o ++ vs ++ cs.toList.drop (o + vs.length)).toArray
  | [], cs, o, h => by simp [splice]
  | v :: vs, cs, o, h => by
    simp only [List.length_cons] at h
    rw [splice, splice_eq vs _ (o + 1) (by simp; omega)]
    congr 1
    rw [Array.toList_setIfInBounds, List.drop_set_of_lt (by omega), List.take_add_one, List.getElem?_set_self (by simp; omega), List.take_set_of_le (Nat.le_refl _)]
    simp [Nat.add_assoc, Nat.add_comm 1]
theorem wsL_len : ∀ {W : List (List Nat)}, (∀ p ∈ W, p.length = 32) → (wsL W).length = W.length * 32
  | [], _ => rfl
  | p :: W, h => by
    have := wsL_len (W := W) fun q hq => h q (by simp [hq])
    simp only [wsL, List.flatMap_cons, List.length_append, List.length_map, List.length_cons] at *
    rw [h p (by simp), this]
    omega
theorem wsL_app (W V : List (List Nat)) : wsL (W ++ V) = wsL W ++ wsL V := by simp [wsL]
theorem ptr_eq {b o o' : Nat} (h : o = o') : Value.pointer (some ⟨b, o, none⟩) = Value.pointer (some ⟨b, o', none⟩) := by rw [h]
theorem wsL_cons (p : List Nat) (W : List (List Nat)) : wsL (p :: W) = p.map n8 ++ wsL W := by simp only [wsL, List.flatMap_cons]
theorem splice_ws {W : List (List Nat)} (h : ∀ p ∈ W, p.length = 32) {i : Nat} (hi : i < W.length) {u : List Nat} (hu : u.length = 32) : splice (wsL W).toArray (i * 32) (u.map n8) = (wsL (W.set i u)).toArray := by
  have e : W = W.take i ++ (W[i] :: W.drop (i + 1)) := by rw [← List.drop_eq_getElem_cons hi, List.take_append_drop]
  have l1 : (wsL (W.take i)).length = i * 32 := by rw [wsL_len (fun p hp => h p (List.mem_of_mem_take hp)), List.length_take]; congr 1; omega
  have l2 : W[i].length = 32 := h _ (List.getElem_mem _)
  have lt : (wsL W).length = W.length * 32 := wsL_len h
  have hm : (i + 1) * 32 ≤ W.length * 32 := Nat.mul_le_mul_right 32 hi
  rw [splice_eq _ _ _ (by simp [hu, lt]; omega)]
  congr 1
  have e1 : W.set i u = W.take i ++ (u :: W.drop (i + 1)) := by rw [List.set_eq_take_append_cons_drop, if_pos hi]
  rw [e1, wsL_app]
  have e2 : wsL W = wsL (W.take i) ++ (W[i].map n8 ++ wsL (W.drop (i + 1))) := by
    conv => lhs; rw [e]
    rw [wsL_app, wsL_cons]
  have e3 : wsL (u :: W.drop (i + 1)) = u.map n8 ++ wsL (W.drop (i + 1)) := wsL_cons _ _
  rw [e2, e3]
  simp only [List.length_map, hu, List.append_assoc]
  rw [List.take_append_of_le_length (by omega), List.take_of_length_le (by omega), List.drop_append, List.drop_of_length_le (by omega), List.nil_append, l1, show i * 32 + 32 - i * 32 = 32 by omega, List.drop_append, List.drop_of_length_le (by simp [l2]), List.nil_append]
  simp [l2]
def wantP (fl : List Nat) (i : Nat) : List (List Nat) := (List.range i).map (fun j => w8L (wsI fl j)) ++ List.replicate (17 - i) (List.replicate 32 0)
theorem wantP_len {fl : List Nat} {i : Nat} (hi : i ≤ 17) : (wantP fl i).length = 17 := by simp [wantP]; omega
theorem w8L_len {l : List Nat} (h : l.length = 8) : (w8L l).length = 32 := by simp [w8L, h]
theorem wantP_ok {fl : List Nat} (h : fl.length = 136) {i : Nat} (hi : i ≤ 17) : ∀ p ∈ wantP fl i, p.length = 32 := by
  intro p hp
  rcases List.mem_append.1 hp with h1 | h1
  · obtain ⟨j, hj, rfl⟩ := List.mem_map.1 h1
    exact w8L_len (wsI_len h (by have := List.mem_range.1 hj; omega))
  · rw [List.mem_replicate] at h1
    rw [h1.2]; simp
theorem wantP_succ {fl : List Nat} {i : Nat} (hi : i < 17) : (wantP fl i).set i (w8L (wsI fl i)) = wantP fl (i + 1) := by
  unfold wantP
  rw [List.range_succ, List.map_append, List.set_append_right _ _ (by simp), List.length_map, List.length_range, Nat.sub_self, show 17 - i = (17 - (i + 1)) + 1 by omega, List.replicate_succ]
  simp
theorem want_small {fl : List Nat} (h : Small fl) (j : Nat) : Small (w8L (wsI fl j)) := by
  intro x hx
  rcases List.mem_append.1 hx with h1 | h1
  · rw [List.mem_replicate] at h1; omega
  · exact wsI_small h j x h1
theorem wantP_small {fl : List Nat} (h : Small fl) (i : Nat) : ∀ p ∈ wantP fl i, Small p := by
  intro p hp
  rcases List.mem_append.1 hp with h1 | h1
  · obtain ⟨j, hj, rfl⟩ := List.mem_map.1 h1
    exact want_small h j
  · rw [List.mem_replicate] at h1
    rw [h1.2]
    intro x hx
    rw [List.mem_replicate] at hx; omega
theorem wsV_row {w : World} {b cap : Nat} {W wl : List (List Nat)} (hr : w.heap[b]? = some (.cells (wsL W).toArray 46 (0, 0))) (hp : wl <+: W) (hc : wl.length ≤ cap) (hok : ∀ p ∈ wl, p.length = 32 ∧ Small p) : WsV w (.slice (some ⟨b, 0, none⟩) wl.length cap) wl := by
  refine ⟨⟨b, cap, _, rfl, hr, hc, fun j u hj => ?_⟩, hok⟩
  obtain ⟨t, rfl⟩ := hp
  rw [wsL_app, List.getElem?_toArray]
  rw [List.getElem?_append_left (List.getElem?_eq_some_iff.1 hj).1]
  exact hj
/-- A pushed word: the bytes that the program has, zeros behind them. -/
def immL (j c : Nat) (im : List Nat) : List Nat := List.replicate (32 - j) 0 ++ (im.take c ++ List.replicate (j - c) 0)
theorem immL_set {j c : Nat} {im : List Nat} {d : Nat} (hj : j ≤ 32) (hc : c < j) (hd : im[c]? = some d) (hi : im.length = 32) : (immL j c im).set (32 - j + c) d = immL j (c + 1) im := by
  unfold immL
  rw [List.set_append_right _ _ (by simp), List.length_replicate, Nat.add_sub_cancel_left, List.set_append_right _ _ (by simp; omega), List.length_take, hi, Nat.min_eq_left (by omega), Nat.sub_self, show j - c = (j - (c + 1)) + 1 by omega, List.replicate_succ, List.take_add_one, hd]
  simp
theorem immL_len {j c : Nat} {im : List Nat} (hj : j ≤ 32) (hc : c ≤ j) (hi : im.length = 32) : (immL j c im).length = 32 := by simp [immL, hi]; omega
theorem immL_zero {j : Nat} (im : List Nat) (hj : j ≤ 32) : immL j 0 im = List.replicate 32 0 := by
  simp only [immL, List.take_zero, List.nil_append, Nat.sub_zero, List.replicate_append_replicate]
  congr 1
  omega
theorem immL_small {j c : Nat} {im : List Nat} (h : Small im) : Small (immL j c im) := by
  intro x hx
  rcases List.mem_append.1 hx with h1 | h1
  · rw [List.mem_replicate] at h1; omega
  · rcases List.mem_append.1 h1 with h2 | h2
    · exact h x (List.mem_of_mem_take h2)
    · rw [List.mem_replicate] at h2; omega
end Go.Own
namespace Go.Proofs.YgcsalGreat
open Go.RowKit Go.Own
theorem zws : (Array.range (17 * 32)).map (fun x => (A8 (List.replicate 32 0)).cells[x % 32]!) = (wsL (List.replicate 17 (List.replicate 32 0))).toArray := by kernel_rfl

set_option maxHeartbeats 4000000 in
set_option maxRecDepth 100000 in
theorem movesHolds_2 (kind n cut : Nat) (fl im : List Nat) (sv : Value) (VR : Array Value) (w : World) (hk : kind % 4 = 2) (hk2 : kind < 256) (hn : n < 256) (hcu : cut < 256) (hfl : fl.length = 136) (hfs : Small fl) (him : im.length = 32) (hims : Small im) (v0 : VR[0]? = some (.bool false)) (v3 : VR[3]? = some (.int .u16 (154))) (v46 : VR[46]? = some sv) (hsv : WsV w sv ((wantP fl 17).take 16)) :
    Calls Salg.prog 19 #[n8 kind, n8 n, n8 cut, .agg (fl.map n8).toArray, A8 im, .agg VR] w fun e w' => e = .returned (.bool true) ∧ Kept [] w w' := by
  have M := Mem.start w []
  have HFL := hid hfl
  have HFS := hid hfs
  have HIM := hid him
  have HIS := hid hims
  have HSV := hid hsv
  have dk0 : decide ((kind : Int) % 4 = 0) = false := by simp; omega
  have ek0 : decide (kind % 4 = 0) = false := by simp; omega
  have dk1 : decide ((kind : Int) % 4 = 1) = false := by simp; omega
  have ek1 : decide (kind % 4 = 1) = false := by simp; omega
  have dk2 : decide ((kind : Int) % 4 = 2) = true := by simp; omega
  have ek2 : decide (kind % 4 = 2) = true := by simp; omega
  have dk3 : decide ((kind : Int) % 4 = 3) = false := by simp; omega
  have ek3 : decide (kind % 4 = 3) = false := by simp; omega
  clear hfl hfs him hims hsv
  go_enter Salg.func19, Salg.ntmps19
  go_wp2_with (first
    | ((with_reducible apply L_box (d := 9) M); rfl; clear M; intro t9 w1 ht9 M; simp only [Act.put, List.setIfInBounds_toArray, List.set_cons_zero, List.set_cons_succ])
    | ((with_reducible apply L_box (d := 10) M); rfl; clear M; intro t10 w2 ht10 M; simp only [Act.put, List.setIfInBounds_toArray, List.set_cons_zero, List.set_cons_succ])
    | ((with_reducible apply L_box (d := 11) M); rfl; clear M; intro t11 w3 ht11 M; simp only [Act.put, List.setIfInBounds_toArray, List.set_cons_zero, List.set_cons_succ])
    | ((with_reducible apply W_makeV (n := 17) (s := 32) (z := A8 (List.replicate 32 0)) (cs := (wsL (wantP fl 0)).toArray) M); rfl; rfl; rfl; rfl; decide; exact Salg.underlying54; exact info46; rfl; decide; decide; decide; exact zws; clear M; intro wb w4 hwb hwb2 KB M; clear KB hwb2; simp only [Act.put, List.setIfInBounds_toArray, List.set_cons_zero, List.set_cons_succ]))
  go_loopw [23] (fun iv wr => ∃ i : Nat, i ≤ 17 ∧ iv = .int .i64 i ∧ Mem w [] [(wb, .cells (wsL (wantP fl i)).toArray 46 (0, 0)), (t11, .cells VR 56 (0, 0)), (t10, .cells (im.map n8).toArray 22 (0, 0)), (t9, .cells (fl.map n8).toArray 34 (0, 0))] wr) (fun iv _ => (17 - intOf iv).toNat)
  case atStart => exact ⟨0, by omega, rfl, M⟩
  case round =>
    clear M
    obtain ⟨i, hi, rfl, M⟩ := hrel
    rcases Nat.lt_or_ge i 17 with hlt | hge
    · have HWL := hid (wsI_len HFL.out hlt)
      have HSP : Hid (splice (wsL (wantP fl i)).toArray (i * 32) ((w8L (wsI fl i)).map n8) = (wsL (wantP fl (i + 1))).toArray) := by
        show _ = _
        rw [splice_ws (wantP_ok HFL.out hi) (by rw [wantP_len hi]; exact hlt) (w8L_len HWL.out), wantP_succ hlt]
      have HSZ : Hid (i * 32 + 32 ≤ (wsL (wantP fl i)).toArray.size) := by
        show _ ≤ _
        rw [List.size_toArray, wsL_len (wantP_ok HFL.out hi), wantP_len hi]
        omega
      have HW8 := hid (w8L_len HWL.out)
      go_wp2_with ((with_reducible apply W_loadX (b := t9) (o := i * 8) (n := 8) (cs := (fl.map n8).toArray) (vs := ((wsI fl i).map n8).toArray)); (first | rfl | exact ptr_eq (by omega)); exact M.r3; exact Salg.underlying33; rfl; exact size33; (rw [List.size_toArray, List.length_map, HFL.out]; omega); exact wsI_ext HFL.out (by omega); simp only [Act.put, List.setIfInBounds_toArray, List.set_cons_zero, List.set_cons_succ])
      refine (word8_any _ _ HWL.out).mono ?_
      rintro e w5 ⟨rfl, K⟩
      replace M := M.call K
      clear K
      go_wp2_with ((with_reducible apply W_stP (b := wb) (o := i * 32) (n := 32) (v := A8 (w8L (wsI fl i))) (rs := (wsL (wantP fl (i + 1))).toArray)); rfl; rfl; exact M.r0; exact size46; (simp [Value.cells, HW8.out]); exact oneT (n8_one _); exact HSZ.out; exact HSP.out; intro w6 K hr3; replace M := Mem.callPut (L1 := []) M (Or.inr hwb) K hr3; clear K hr3; simp only [List.nil_append] at M)
      go_roundw
      case rel => exact ⟨i + 1, by omega, by go_num, M⟩
      case measure => simp [intOf]; omega
    · obtain rfl : i = 17 := by omega
      clear hge hi
      have HOK : Hid (∀ p ∈ (wantP fl 17).take 16, p.length = 32 ∧ Small p) := fun p hp => ⟨wantP_ok HFL.out (Nat.le_refl _) p (List.mem_of_mem_take hp), wantP_small HFS.out 17 p (List.mem_of_mem_take hp)⟩
      have HL16 : Hid (((wantP fl 17).take 16).length = 16) := by show _ = _; rw [List.length_take, wantP_len (Nat.le_refl _)]; rfl
      have HLN : Hid (((wantP fl 17).take 16).length ≤ 40) := by show _ ≤ _; rw [HL16.out]; decide
      go_wp2_with (first
        | ((with_reducible apply W_loadCell); rfl; exact M.r1; exact v0; exact Salg.underlying4; rfl; simp only [Act.put, List.setIfInBounds_toArray, List.set_cons_zero, List.set_cons_succ])
        | ((with_reducible apply W_loadCellG); rfl; rfl; exact M.r1; exact v3; exact Salg.underlying53; rfl; simp only [Act.put, List.setIfInBounds_toArray, List.set_cons_zero, List.set_cons_succ])
        | ((with_reducible apply W_loadCellG); rfl; rfl; exact M.r1; exact v46; exact Salg.underlying54; rfl; simp only [Act.put, List.setIfInBounds_toArray, List.set_cons_zero, List.set_cons_succ])
        | fail)
      have HWV := wsV_row M.r0 (List.take_prefix 16 _) (cap := 17) (by rw [HL16.out]; decide) HOK.out
      rw [HL16.out] at HWV
      refine (wordsMeet_yes _ _ _ _ (HSV.out.kept M.kept) (HWV) HLN.out).mono ?_
      rintro e w20 ⟨rfl, K⟩
      replace M := M.call K
      clear K
      go_wp2_with fail
      go_ret
      exact ⟨rfl, M.kept⟩
end Go.Proofs.YgcsalGreat

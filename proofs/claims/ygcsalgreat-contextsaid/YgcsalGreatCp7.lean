/-
  yp.place, yp.cut at any place; (*yp.Frame).read, write and copied; (*yp.State).effect at the instructions that copy.
-/
import Derived.Test.YgcsalGreatCp6
import Derived.Test.YgcsalGreatSl29
set_option linter.unusedSimpArgs false
set_option linter.unusedVariables false
namespace Go.Own
/-- The memory with bs laid at O. -/
def wrB (mem : List Nat) (O : Nat) (bs : List Nat) : List Nat := mem.take O ++ bs ++ mem.drop (O + bs.length)
theorem wrB_nil (mem : List Nat) (O : Nat) : wrB mem O [] = mem := by simp [wrB]
theorem wrB_length {mem bs : List Nat} {O : Nat} (h : O + bs.length ≤ mem.length) : (wrB mem O bs).length = mem.length := by simp [wrB]; omega
theorem wrB_small {mem bs : List Nat} {O : Nat} (h1 : Small mem) (h2 : Small bs) : Small (wrB mem O bs) := by
  intro x hx
  simp only [wrB, List.mem_append] at hx
  rcases hx with (hx | hx) | hx
  · exact h1 x (List.mem_of_mem_take hx)
  · exact h2 x hx
  · exact h1 x (List.mem_of_mem_drop hx)
theorem cutB_zero (ds : List Nat) (m : Nat) : cutB ds m 0 = [] := by simp [cutB]
end Go.Own
namespace Go.Proofs.YgcsalGreat
open Go.RowKit Go.Own

set_option maxHeartbeats 4000000 in
set_option maxRecDepth 100000 in
theorem place_big (v : Value) (m n : Nat) (w : World) (hv : NumV w v m) (hm : 18446744073709551616 ≤ m) : Calls Salg.prog 180 #[v, .int .i64 n] w fun e w' => e = .returned (.tuple #[.int .i64 0, .bool false]) ∧ w' = w := by
  have HV := hid hv
  clear hv
  go_enter Salg.func180, Salg.ntmps180
  go_wp2_with fail
  refine (u64_big v m _ HV.out hm).mono ?_
  rintro e w1 ⟨rfl, hw⟩
  replace hw := hw.symm
  subst hw
  go_wp2_with fail
  go_ret2
  exact ⟨rfl, rfl⟩
theorem place_gone (v : Value) (m n : Nat) (w : World) (hv : NumV w v m) (hn : n ≤ 1000000) (hm : n ≤ m) : Calls Salg.prog 180 #[v, .int .i64 n] w fun e w' => e = .returned (.tuple #[.int .i64 0, .bool false]) ∧ w' = w := by
  rcases Nat.lt_or_ge m 18446744073709551616 with h | h
  · exact place_out v m n w hv hn hm h
  · exact place_big v m n w hv h

set_option maxHeartbeats 4000000 in
set_option maxRecDepth 100000 in
set_option maxHeartbeats 4000000 in
set_option maxRecDepth 100000 in
theorem cut_gen (cv ov nv : Value) (ds : List Nat) (m j : Nat) (w : World) (hc : NatV w cv ds) (ho : NumV w ov m) (hn : NumV w nv j) (hj : j ≤ 1000) (hl : ds.length ≤ 1000) :
    Calls Salg.prog 190 #[cv, ov, nv] w fun e w' => ∃ b, e = .returned (.slice (some ⟨b, 0, none⟩) j j) ∧ w.heap.size ≤ b ∧ w'.heap[b]? = some (R8 5 (cutB ds m j)) ∧ Kept [] w w' := by
  have M := Mem.start w []
  have HSM := hid (small_any nv j w hn (by omega))
  have HO := hid ho
  clear ho hn
  rcases Nat.lt_or_ge m ds.length with hlt | hge
  · obtain ⟨p, c, rfl, hc1, hc2, hd, hsm⟩ := hc
    obtain ⟨b, t, cs, rfl, hrb, hpre⟩ := hd.at hlt
    have HC : Hid (∀ (k : Nat) (v : Value), (((ds.drop m).take j).map n8)[k]? = some v → (cs.map n8).toArray[m + k]? = some v) := by
      intro k v hk
      simp only [List.getElem?_map, Option.map_eq_some_iff] at hk
      obtain ⟨x, hx, rfl⟩ := hk
      have hkj : k < j := by
        have := (List.getElem?_eq_some_iff.1 hx).1
        simp at this; omega
      rw [List.getElem?_take_of_lt hkj, List.getElem?_drop] at hx
      have hlt2 := (List.getElem?_eq_some_iff.1 hx).1
      have := pre_get hpre hlt2
      rw [List.getElem?_eq_getElem hlt2] at hx
      simp only [Option.some.injEq] at hx
      simp [this, hx]
    have HLE : Hid ((((ds.drop m).take j).map n8).length = min (ds.length - m) j) := by show _ = _; simp; omega
    have HON : Hid (∀ v ∈ ((ds.drop m).take j).map n8, v.oneCell' = true) := by
      intro v hv
      obtain ⟨x, _, rfl⟩ := List.mem_map.1 hv
      rfl
    have HFI : Hid (0 + (((ds.drop m).take j).map n8).length ≤ ((List.replicate j 0).map n8).toArray.size) := by show _ ≤ _; simp; omega
    have HSP := hid (cutB_splice (ds := ds) (m := m) j)
    clear hd hpre hsm
    generalize ((ds.drop m).take j).map n8 = news at *
    generalize cutB ds m j = out at *
    generalize ds.length = n at *
    have HPL := hid (fun w' (K : Kept [] w w') => place_in ov m n w' (HO.out.kept K) (by omega) hlt)
    go_enter Salg.func190, Salg.ntmps190
    go_wp2_with fail
    refine HSM.out.mono ?_
    rintro e w1 ⟨rfl, rfl⟩
    go_wp2_with ((with_reducible apply W_make8 (n := j) M); rfl; rfl; rfl; rfl; omega; exact Salg.underlying40; exact info5; clear M; intro b1 w2 hb1 M; simp only [Act.put, List.setIfInBounds_toArray, List.set_cons_zero, List.set_cons_succ])
    refine (HPL.out _ M.kept).mono ?_
    rintro e w3 ⟨rfl, rfl⟩
    go_wp2_with ((with_reducible apply W_copyAt (b := b1) (o := 0) (b' := b) (so := m) (news := news) (cur := ((List.replicate j 0).map n8).toArray) (t := 5)); rfl; rfl; exact Salg.underlying40; exact size5; exact M.r0; exact M.kept.row hrb (by simp); exact HLE.out; exact HC.out; exact HFI.out; exact HON.out; intro w4 K hr4; rw [HSP.out] at hr4; replace M := Mem.callPut (L1 := []) M (Or.inr hb1) K hr4; clear K hr4; simp only [Act.put, List.setIfInBounds_toArray, List.set_cons_zero, List.set_cons_succ])
    go_ret
    exact ⟨b1, rfl, hb1, M.r0, M.kept⟩
  · have HCU := hid (cutB_out hge j)
    obtain ⟨p, c, rfl, hc1, hc2, hd, hsm⟩ := hc
    clear hd hsm
    generalize cutB ds m j = out at *
    generalize ds.length = n at *
    have HPL := hid (fun w' (K : Kept [] w w') => place_gone ov m n w' (HO.out.kept K) (by omega) hge)
    go_enter Salg.func190, Salg.ntmps190
    go_wp2_with fail
    refine HSM.out.mono ?_
    rintro e w1 ⟨rfl, rfl⟩
    go_wp2_with ((with_reducible apply W_make8 (n := j) M); rfl; rfl; rfl; rfl; omega; exact Salg.underlying40; exact info5; clear M; intro b1 w2 hb1 M; simp only [Act.put, List.setIfInBounds_toArray, List.set_cons_zero, List.set_cons_succ])
    refine (HPL.out _ M.kept).mono ?_
    rintro e w3 ⟨rfl, rfl⟩
    go_wp2_with fail
    go_ret
    exact ⟨b1, rfl, hb1, by rw [HCU.out]; exact M.r0, M.kept⟩


set_option maxHeartbeats 4000000 in
set_option maxRecDepth 100000 in
theorem read_gen (fb q : Nat) (fs : Array Value) (mv o n : Value) (ds : List Nat) (O N : Nat) (w : World) (hr : w.heap[fb]? = some (.cells fs 142 (0, 0))) (h9 : fs[q + 9]? = some mv) (hm : NatV w mv ds) (ho : NumV w o O) (hn : NumV w n N) (hN0 : N ≠ 0) (hN : N ≤ 1000) (hl : ds.length ≤ 1000) : Calls Salg.prog 115 #[.pointer (some ⟨fb, q, none⟩), o, n] w fun e w' => ∃ b, e = .returned (.slice (some ⟨b, 0, none⟩) N N) ∧ w.heap.size ≤ b ∧ w'.heap[b]? = some (R8 5 (cutB ds O N)) ∧ Kept [] w w' := by
  have M := Mem.start w []
  have HN := hid hn
  have HO := hid ho
  have HM := hid hm
  clear hn ho hm
  go_enter Salg.func115, Salg.ntmps115
  go_wp2_with fail
  refine (isZero_lit n N false (by simp [hN0]) _ HN.out).mono ?_
  rintro e w1 ⟨rfl, K⟩
  replace HN := hid (HN.out.kept K)
  replace HO := hid (HO.out.kept K)
  replace HM := hid (HM.out.kept K)
  replace M := M.call K
  clear K
  have hsz1 := M.kept.size
  go_wp2_with ((with_reducible apply W_loadCell); rfl; exact M.kept.row hr (by simp); exact h9; exact Salg.underlying40; rfl; simp only [Act.put, List.setIfInBounds_toArray, List.set_cons_zero, List.set_cons_succ])
  refine (cut_gen mv o n ds O N _ HM.out HO.out HN.out hN hl).mono ?_
  rintro e w2 ⟨b, rfl, xb, xr, K⟩
  have HB := hid xr
  replace M := M.call K
  clear K xr
  go_wp2_with fail
  go_ret
  exact ⟨b, rfl, Nat.le_trans hsz1 xb, HB.out, M.kept⟩

set_option maxHeartbeats 4000000 in
set_option maxRecDepth 100000 in
theorem write_gen (fb q mb sb t O cp n L : Nat) (fs : Array Value) (o : Value) (mem bs : List Nat) (w : World) (hr : w.heap[fb]? = some (.cells fs 142 (0, 0))) (h9 : fs[q + 9]? = some (.slice (some ⟨mb, 0, none⟩) L L)) (hm : w.heap[mb]? = some (R8 5 mem)) (hs : w.heap[sb]? = some (R8 t bs)) (ho : NumV w o O) (hL : mem.length = L) (hn : bs.length = n) (hfit : O + n ≤ L) (h0 : 0 < n) (hl : L ≤ 10000) :
    Calls Salg.prog 186 #[.pointer (some ⟨fb, q, none⟩), o, .slice (some ⟨sb, 0, none⟩) n cp] w fun e w' => ∃ r, e = .returned r ∧ w'.heap[mb]? = some (R8 5 (wrB mem O bs)) ∧ Kept [mb] w w' := by
  have HO := hid ho
  have HM : Hid (w.heap[mb]? = some (.cells (mem.map n8).toArray 5 (0, 0))) := hm
  have HS : Hid (w.heap[sb]? = some (.cells (bs.map n8).toArray t (0, 0))) := hs
  have HLE : Hid ((bs.map n8).length = min n (L - O)) := by show _ = _; rw [List.length_map, hn]; omega
  have HSR : Hid (∀ (j : Nat) (v : Value), (bs.map n8)[j]? = some v → (bs.map n8).toArray[0 + j]? = some v) := by
    intro j v hj
    rw [Nat.zero_add, List.getElem?_toArray]
    exact hj
  have HFI : Hid (O + (bs.map n8).length ≤ (mem.map n8).toArray.size) := by show _ ≤ _; simp [hL, hn]; omega
  have HON : Hid (∀ v ∈ bs.map n8, v.oneCell' = true) := by
    intro v hv
    obtain ⟨x, _, rfl⟩ := List.mem_map.1 hv
    rfl
  have HSP : Hid (((mem.map n8).toArray.toList.take O ++ bs.map n8 ++ (mem.map n8).toArray.toList.drop (O + (bs.map n8).length)) = (wrB mem O bs).map n8) := by
    show _ = _
    simp [wrB]
  clear ho hm hs
  go_enter Salg.func186, Salg.ntmps186
  go_wp2_with ((with_reducible apply W_loadCell); rfl; exact hr; exact h9; exact Salg.underlying40; rfl; simp only [Act.put, List.setIfInBounds_toArray, List.set_cons_zero, List.set_cons_succ])
  refine (place_in o O L _ HO.out (by omega) (by omega)).mono ?_
  rintro e w1 ⟨rfl, hw⟩
  replace hw := hw.symm
  subst hw
  go_wp2_with (first
    | ((with_reducible apply W_loadCell); rfl; exact hr; exact h9; exact Salg.underlying40; rfl; simp only [Act.put, List.setIfInBounds_toArray, List.set_cons_zero, List.set_cons_succ])
    | ((with_reducible apply W_copyAt (b := mb) (o := O) (b' := sb) (so := 0) (news := bs.map n8) (cur := (mem.map n8).toArray) (t := 5)); rfl; rfl; exact Salg.underlying40; exact size5; exact HM.out; exact HS.out; exact HLE.out; exact HSR.out; exact HFI.out; exact HON.out; intro w4 K hr4; rw [HSP.out] at hr4; simp only [Act.put, List.setIfInBounds_toArray, List.set_cons_zero, List.set_cons_succ]))
  go_end0
  exact ⟨_, rfl, hr4, K⟩

set_option maxHeartbeats 4000000 in
set_option maxRecDepth 100000 in
theorem copied_zero (f d s o n : Value) (w : World) (hn : NumV w n 0) : Calls Salg.prog 227 #[f, d, s, o, n] w fun e w' => ∃ r, e = .returned r ∧ Kept [] w w' := by
  have M := Mem.start w []
  have HN := hid hn
  clear hn
  go_enter Salg.func227, Salg.ntmps227
  go_wp2_with fail
  refine (isZero_any n 0 _ HN.out).mono ?_
  rintro e w1 ⟨rfl, K⟩
  replace M := M.call K
  clear K
  go_wp2_with fail
  go_end0
  exact ⟨_, rfl, M.kept⟩

set_option maxHeartbeats 4000000 in
set_option maxRecDepth 100000 in
theorem copied_some (fb q mb D O N L : Nat) (fs : Array Value) (d s o n : Value) (mem ds : List Nat) (w : World) (hr : w.heap[fb]? = some (.cells fs 142 (0, 0))) (h9 : fs[q + 9]? = some (.slice (some ⟨mb, 0, none⟩) L L)) (hm : w.heap[mb]? = some (R8 5 mem)) (hL : mem.length = L) (hd : NumV w d D) (hs : NatV w s ds) (ho : NumV w o O) (hn : NumV w n N) (hN0 : N ≠ 0) (hN : N ≤ 1000) (hl : ds.length ≤ 1000) (hfit : D + N ≤ L) (hL2 : L ≤ 10000) :
    Calls Salg.prog 227 #[.pointer (some ⟨fb, q, none⟩), d, s, o, n] w fun e w' => ∃ r, e = .returned r ∧ w'.heap[mb]? = some (R8 5 (wrB mem D (cutB ds O N))) ∧ Kept [mb] w w' := by
  have M := Mem.start w []
  have HD := hid hd
  have HS := hid hs
  have HO := hid ho
  have HN := hid hn
  clear hd hs ho hn
  go_enter Salg.func227, Salg.ntmps227
  go_wp2_with fail
  refine (isZero_lit n N false (by simp [hN0]) _ HN.out).mono ?_
  rintro e w1 ⟨rfl, K⟩
  replace HN := hid (HN.out.kept K)
  replace HO := hid (HO.out.kept K)
  replace HS := hid (HS.out.kept K)
  replace HD := hid (HD.out.kept K)
  replace M := M.call K
  clear K
  go_wp2_with fail
  refine (cut_gen s o n ds O N _ HS.out HO.out HN.out hN hl).mono ?_
  rintro e w2 ⟨b, rfl, xb, xr, K⟩
  have HB := hid xr
  replace HD := hid (HD.out.kept K)
  replace M := M.call K
  clear K xr
  go_wp2_with fail
  refine (write_gen fb q mb b 5 D N N L fs d mem (cutB ds O N) _ (M.kept.row hr (by simp)) h9 (M.kept.row hm (by simp)) HB.out HD.out hL (cutB_length _ _ _) hfit (by omega) hL2).mono ?_
  rintro e w3 ⟨r, rfl, x3, K⟩
  have H3 := hid x3
  have HK := hid ((M.kept.mono (by simp)).trans K : Kept [mb] w w3)
  clear x3 K M
  go_wp2_with fail
  go_end0
  exact ⟨_, rfl, H3.out, HK.out⟩
theorem copied_any (fb q mb D O N L : Nat) (fs : Array Value) (d s o n : Value) (mem ds : List Nat) (w : World) (hr : w.heap[fb]? = some (.cells fs 142 (0, 0))) (h9 : fs[q + 9]? = some (.slice (some ⟨mb, 0, none⟩) L L)) (hm : w.heap[mb]? = some (R8 5 mem)) (hL : mem.length = L) (hd : NumV w d D) (hs : NatV w s ds) (ho : NumV w o O) (hn : NumV w n N) (hN : N ≤ 1000) (hl : ds.length ≤ 1000) (hfit : N = 0 ∨ D + N ≤ L) (hL2 : L ≤ 10000) :
    Calls Salg.prog 227 #[.pointer (some ⟨fb, q, none⟩), d, s, o, n] w fun e w' => ∃ r, e = .returned r ∧ w'.heap[mb]? = some (R8 5 (wrB mem D (cutB ds O N))) ∧ Kept [mb] w w' := by
  by_cases h0 : N = 0
  · subst h0
    refine (copied_zero _ d s o n w hn).mono ?_
    rintro e w' ⟨r, rfl, K⟩
    refine ⟨r, rfl, ?_, K.mono (by simp)⟩
    rw [cutB_zero, wrB_nil]
    exact K.row hm (by simp)
  · exact copied_some fb q mb D O N L fs d s o n mem ds w hr h9 hm hL hd hs ho hn h0 hN hl (by omega) hL2

set_option maxHeartbeats 4000000 in
set_option maxRecDepth 100000 in
theorem effectM_calldatacopy (st a b n sv : Value) (c fb q mb ab D O N L : Nat) (cs fs args : Array Value) (mem ds : List Nat) (w : World) (hr : w.heap[fb]? = some (.cells fs 142 (0, 0))) (h9 : fs[q + 9]? = some (.slice (some ⟨mb, 0, none⟩) L L)) (hm : w.heap[mb]? = some (R8 5 mem)) (hL : mem.length = L) (hsc : fs[q + 11]? = some sv) (hsv : NatV w sv ds) (hab : w.heap[ab]? = some (.cells args 89 (0, 0))) (ha : args[0]? = some a) (hb : args[1]? = some b) (hn : args[2]? = some n) (hA : NumV w a D) (hB : NumV w b O) (hNn : NumV w n N) (hN : N ≤ 1000) (hl : ds.length ≤ 1000) (hfit : N = 0 ∨ D + N ≤ L) (hL2 : L ≤ 1000) :
    Calls Salg.prog 197 #[st, .pointer (some ⟨fb, q, none⟩), .int .u8 55, .slice (some ⟨ab, 0, none⟩) 3 3] w fun e w' => e = .returned (.bool true) ∧ w'.heap[mb]? = some (R8 5 (wrB mem D (cutB ds O N))) ∧ Kept [mb] w w' := by
  have M := Mem.start w []
  have HA := hid hA
  have HB := hid hB
  have HN := hid hNn
  have HSV := hid hsv
  clear hA hB hNn hsv
  go_enter Salg.func197, Salg.ntmps197
  go_wp2_with fail
  refine (operand_in 0 ab 3 3 args a _ hab (by decide) (by decide) ha).mono ?_
  rintro e w1 ⟨rfl, hw⟩
  replace hw := hw.symm
  subst hw
  go_wp2_with fail
  refine (operand_in 1 ab 3 3 args b _ hab (by decide) (by decide) hb).mono ?_
  rintro e w1 ⟨rfl, hw⟩
  replace hw := hw.symm
  subst hw
  go_wp2_with fail
  refine (operand_in 2 ab 3 3 args n _ hab (by decide) (by decide) hn).mono ?_
  rintro e w1 ⟨rfl, hw⟩
  replace hw := hw.symm
  subst hw
  go_wp2_with ((with_reducible apply W_loadCell); rfl; exact M.kept.row hr (by simp); exact hsc; exact Salg.underlying40; rfl; simp only [Act.put, List.setIfInBounds_toArray, List.set_cons_zero, List.set_cons_succ])
  refine (copied_any fb q mb D O N L fs a sv b n mem ds _ (M.kept.row hr (by simp)) h9 (M.kept.row hm (by simp)) hL (HA.out.kept M.kept) (HSV.out.kept M.kept) (HB.out.kept M.kept) (HN.out.kept M.kept) hN hl hfit (by omega)).mono ?_
  rintro e w3 ⟨r, rfl, x3, K⟩
  have H3 := hid x3
  have HK := hid ((M.kept.mono (by simp)).trans K : Kept [mb] w w3)
  clear x3 K M
  go_wp2_with fail
  go_ret
  exact ⟨rfl, H3.out, HK.out⟩

set_option maxHeartbeats 4000000 in
set_option maxRecDepth 100000 in
theorem effectM_calldatacopy_zero (st a b n sv : Value) (c fb q mb ab D O N L : Nat) (cs fs args : Array Value) (mem ds : List Nat) (w : World) (hr : w.heap[fb]? = some (.cells fs 142 (0, 0))) (hsc : fs[q + 11]? = some sv) (hsv : NatV w sv ds) (hab : w.heap[ab]? = some (.cells args 89 (0, 0))) (ha : args[0]? = some a) (hb : args[1]? = some b) (hn : args[2]? = some n) (hA : NumV w a D) (hB : NumV w b O) (hNn : NumV w n 0) :
    Calls Salg.prog 197 #[st, .pointer (some ⟨fb, q, none⟩), .int .u8 55, .slice (some ⟨ab, 0, none⟩) 3 3] w fun e w' => e = .returned (.bool true) ∧ Kept [] w w' := by
  have M := Mem.start w []
  have HA := hid hA
  have HB := hid hB
  have HN := hid hNn
  have HSV := hid hsv
  clear hA hB hNn hsv
  go_enter Salg.func197, Salg.ntmps197
  go_wp2_with fail
  refine (operand_in 0 ab 3 3 args a _ hab (by decide) (by decide) ha).mono ?_
  rintro e w1 ⟨rfl, hw⟩
  replace hw := hw.symm
  subst hw
  go_wp2_with fail
  refine (operand_in 1 ab 3 3 args b _ hab (by decide) (by decide) hb).mono ?_
  rintro e w1 ⟨rfl, hw⟩
  replace hw := hw.symm
  subst hw
  go_wp2_with fail
  refine (operand_in 2 ab 3 3 args n _ hab (by decide) (by decide) hn).mono ?_
  rintro e w1 ⟨rfl, hw⟩
  replace hw := hw.symm
  subst hw
  go_wp2_with ((with_reducible apply W_loadCell); rfl; exact M.kept.row hr (by simp); exact hsc; exact Salg.underlying40; rfl; simp only [Act.put, List.setIfInBounds_toArray, List.set_cons_zero, List.set_cons_succ])
  refine (copied_zero _ a sv b n _ (HN.out.kept M.kept)).mono ?_
  rintro e w3 ⟨r, rfl, K⟩
  replace M := M.call K
  clear K
  go_wp2_with fail
  go_ret
  exact ⟨rfl, M.kept⟩

set_option maxHeartbeats 4000000 in
set_option maxRecDepth 100000 in
theorem effectM_codecopy (st a b n sv : Value) (c fb q mb ab D O N L : Nat) (cs fs args : Array Value) (mem ds : List Nat) (w : World) (hr : w.heap[fb]? = some (.cells fs 142 (0, 0))) (h9 : fs[q + 9]? = some (.slice (some ⟨mb, 0, none⟩) L L)) (hm : w.heap[mb]? = some (R8 5 mem)) (hL : mem.length = L) (hsc : fs[q + 10]? = some sv) (hsv : NatV w sv ds) (hab : w.heap[ab]? = some (.cells args 89 (0, 0))) (ha : args[0]? = some a) (hb : args[1]? = some b) (hn : args[2]? = some n) (hA : NumV w a D) (hB : NumV w b O) (hNn : NumV w n N) (hN : N ≤ 1000) (hl : ds.length ≤ 1000) (hfit : N = 0 ∨ D + N ≤ L) (hL2 : L ≤ 1000) :
    Calls Salg.prog 197 #[st, .pointer (some ⟨fb, q, none⟩), .int .u8 57, .slice (some ⟨ab, 0, none⟩) 3 3] w fun e w' => e = .returned (.bool true) ∧ w'.heap[mb]? = some (R8 5 (wrB mem D (cutB ds O N))) ∧ Kept [mb] w w' := by
  have M := Mem.start w []
  have HA := hid hA
  have HB := hid hB
  have HN := hid hNn
  have HSV := hid hsv
  clear hA hB hNn hsv
  go_enter Salg.func197, Salg.ntmps197
  go_wp2_with fail
  refine (operand_in 0 ab 3 3 args a _ hab (by decide) (by decide) ha).mono ?_
  rintro e w1 ⟨rfl, hw⟩
  replace hw := hw.symm
  subst hw
  go_wp2_with fail
  refine (operand_in 1 ab 3 3 args b _ hab (by decide) (by decide) hb).mono ?_
  rintro e w1 ⟨rfl, hw⟩
  replace hw := hw.symm
  subst hw
  go_wp2_with fail
  refine (operand_in 2 ab 3 3 args n _ hab (by decide) (by decide) hn).mono ?_
  rintro e w1 ⟨rfl, hw⟩
  replace hw := hw.symm
  subst hw
  go_wp2_with ((with_reducible apply W_loadCell); rfl; exact M.kept.row hr (by simp); exact hsc; exact Salg.underlying40; rfl; simp only [Act.put, List.setIfInBounds_toArray, List.set_cons_zero, List.set_cons_succ])
  refine (copied_any fb q mb D O N L fs a sv b n mem ds _ (M.kept.row hr (by simp)) h9 (M.kept.row hm (by simp)) hL (HA.out.kept M.kept) (HSV.out.kept M.kept) (HB.out.kept M.kept) (HN.out.kept M.kept) hN hl hfit (by omega)).mono ?_
  rintro e w3 ⟨r, rfl, x3, K⟩
  have H3 := hid x3
  have HK := hid ((M.kept.mono (by simp)).trans K : Kept [mb] w w3)
  clear x3 K M
  go_wp2_with fail
  go_ret
  exact ⟨rfl, H3.out, HK.out⟩

set_option maxHeartbeats 4000000 in
set_option maxRecDepth 100000 in
theorem effectM_codecopy_zero (st a b n sv : Value) (c fb q mb ab D O N L : Nat) (cs fs args : Array Value) (mem ds : List Nat) (w : World) (hr : w.heap[fb]? = some (.cells fs 142 (0, 0))) (hsc : fs[q + 10]? = some sv) (hsv : NatV w sv ds) (hab : w.heap[ab]? = some (.cells args 89 (0, 0))) (ha : args[0]? = some a) (hb : args[1]? = some b) (hn : args[2]? = some n) (hA : NumV w a D) (hB : NumV w b O) (hNn : NumV w n 0) :
    Calls Salg.prog 197 #[st, .pointer (some ⟨fb, q, none⟩), .int .u8 57, .slice (some ⟨ab, 0, none⟩) 3 3] w fun e w' => e = .returned (.bool true) ∧ Kept [] w w' := by
  have M := Mem.start w []
  have HA := hid hA
  have HB := hid hB
  have HN := hid hNn
  have HSV := hid hsv
  clear hA hB hNn hsv
  go_enter Salg.func197, Salg.ntmps197
  go_wp2_with fail
  refine (operand_in 0 ab 3 3 args a _ hab (by decide) (by decide) ha).mono ?_
  rintro e w1 ⟨rfl, hw⟩
  replace hw := hw.symm
  subst hw
  go_wp2_with fail
  refine (operand_in 1 ab 3 3 args b _ hab (by decide) (by decide) hb).mono ?_
  rintro e w1 ⟨rfl, hw⟩
  replace hw := hw.symm
  subst hw
  go_wp2_with fail
  refine (operand_in 2 ab 3 3 args n _ hab (by decide) (by decide) hn).mono ?_
  rintro e w1 ⟨rfl, hw⟩
  replace hw := hw.symm
  subst hw
  go_wp2_with ((with_reducible apply W_loadCell); rfl; exact M.kept.row hr (by simp); exact hsc; exact Salg.underlying40; rfl; simp only [Act.put, List.setIfInBounds_toArray, List.set_cons_zero, List.set_cons_succ])
  refine (copied_zero _ a sv b n _ (HN.out.kept M.kept)).mono ?_
  rintro e w3 ⟨r, rfl, K⟩
  replace M := M.call K
  clear K
  go_wp2_with fail
  go_ret
  exact ⟨rfl, M.kept⟩

set_option maxHeartbeats 4000000 in
set_option maxRecDepth 100000 in
theorem effectM_returndatacopy (st a b n sv : Value) (c fb q mb ab D O N L : Nat) (cs fs args : Array Value) (mem ds : List Nat) (w : World) (hr : w.heap[fb]? = some (.cells fs 142 (0, 0))) (h9 : fs[q + 9]? = some (.slice (some ⟨mb, 0, none⟩) L L)) (hm : w.heap[mb]? = some (R8 5 mem)) (hL : mem.length = L) (hc : w.heap[c]? = some (.cells cs 119 (0, 0))) (hsc : cs[10]? = some sv) (hsv : NatV w sv ds) (hab : w.heap[ab]? = some (.cells args 89 (0, 0))) (ha : args[0]? = some a) (hb : args[1]? = some b) (hn : args[2]? = some n) (hA : NumV w a D) (hB : NumV w b O) (hNn : NumV w n N) (hN : N ≤ 1000) (hl : ds.length ≤ 1000) (hfit : N = 0 ∨ D + N ≤ L) (hL2 : L ≤ 1000) :
    Calls Salg.prog 197 #[.pointer (some ⟨c, 0, none⟩), .pointer (some ⟨fb, q, none⟩), .int .u8 62, .slice (some ⟨ab, 0, none⟩) 3 3] w fun e w' => e = .returned (.bool true) ∧ w'.heap[mb]? = some (R8 5 (wrB mem D (cutB ds O N))) ∧ Kept [mb] w w' := by
  have M := Mem.start w []
  have HA := hid hA
  have HB := hid hB
  have HN := hid hNn
  have HSV := hid hsv
  clear hA hB hNn hsv
  go_enter Salg.func197, Salg.ntmps197
  go_wp2_with fail
  refine (operand_in 0 ab 3 3 args a _ hab (by decide) (by decide) ha).mono ?_
  rintro e w1 ⟨rfl, hw⟩
  replace hw := hw.symm
  subst hw
  go_wp2_with fail
  refine (operand_in 1 ab 3 3 args b _ hab (by decide) (by decide) hb).mono ?_
  rintro e w1 ⟨rfl, hw⟩
  replace hw := hw.symm
  subst hw
  go_wp2_with fail
  refine (operand_in 2 ab 3 3 args n _ hab (by decide) (by decide) hn).mono ?_
  rintro e w1 ⟨rfl, hw⟩
  replace hw := hw.symm
  subst hw
  go_wp2_with ((with_reducible apply W_loadCell); rfl; exact M.kept.row hc (by simp); exact hsc; exact Salg.underlying40; rfl; simp only [Act.put, List.setIfInBounds_toArray, List.set_cons_zero, List.set_cons_succ])
  refine (copied_any fb q mb D O N L fs a sv b n mem ds _ (M.kept.row hr (by simp)) h9 (M.kept.row hm (by simp)) hL (HA.out.kept M.kept) (HSV.out.kept M.kept) (HB.out.kept M.kept) (HN.out.kept M.kept) hN hl hfit (by omega)).mono ?_
  rintro e w3 ⟨r, rfl, x3, K⟩
  have H3 := hid x3
  have HK := hid ((M.kept.mono (by simp)).trans K : Kept [mb] w w3)
  clear x3 K M
  go_wp2_with fail
  go_ret
  exact ⟨rfl, H3.out, HK.out⟩

set_option maxHeartbeats 4000000 in
set_option maxRecDepth 100000 in
theorem effectM_returndatacopy_zero (st a b n sv : Value) (c fb q mb ab D O N L : Nat) (cs fs args : Array Value) (mem ds : List Nat) (w : World) (hr : w.heap[fb]? = some (.cells fs 142 (0, 0))) (hc : w.heap[c]? = some (.cells cs 119 (0, 0))) (hsc : cs[10]? = some sv) (hsv : NatV w sv ds) (hab : w.heap[ab]? = some (.cells args 89 (0, 0))) (ha : args[0]? = some a) (hb : args[1]? = some b) (hn : args[2]? = some n) (hA : NumV w a D) (hB : NumV w b O) (hNn : NumV w n 0) :
    Calls Salg.prog 197 #[.pointer (some ⟨c, 0, none⟩), .pointer (some ⟨fb, q, none⟩), .int .u8 62, .slice (some ⟨ab, 0, none⟩) 3 3] w fun e w' => e = .returned (.bool true) ∧ Kept [] w w' := by
  have M := Mem.start w []
  have HA := hid hA
  have HB := hid hB
  have HN := hid hNn
  have HSV := hid hsv
  clear hA hB hNn hsv
  go_enter Salg.func197, Salg.ntmps197
  go_wp2_with fail
  refine (operand_in 0 ab 3 3 args a _ hab (by decide) (by decide) ha).mono ?_
  rintro e w1 ⟨rfl, hw⟩
  replace hw := hw.symm
  subst hw
  go_wp2_with fail
  refine (operand_in 1 ab 3 3 args b _ hab (by decide) (by decide) hb).mono ?_
  rintro e w1 ⟨rfl, hw⟩
  replace hw := hw.symm
  subst hw
  go_wp2_with fail
  refine (operand_in 2 ab 3 3 args n _ hab (by decide) (by decide) hn).mono ?_
  rintro e w1 ⟨rfl, hw⟩
  replace hw := hw.symm
  subst hw
  go_wp2_with ((with_reducible apply W_loadCell); rfl; exact M.kept.row hc (by simp); exact hsc; exact Salg.underlying40; rfl; simp only [Act.put, List.setIfInBounds_toArray, List.set_cons_zero, List.set_cons_succ])
  refine (copied_zero _ a sv b n _ (HN.out.kept M.kept)).mono ?_
  rintro e w3 ⟨r, rfl, K⟩
  replace M := M.call K
  clear K
  go_wp2_with fail
  go_ret
  exact ⟨rfl, M.kept⟩

set_option maxHeartbeats 4000000 in
set_option maxRecDepth 100000 in
theorem effectM_mcopy (st a b n sv : Value) (c fb q mb ab D O N L : Nat) (cs fs args : Array Value) (mem ds : List Nat) (w : World) (hr : w.heap[fb]? = some (.cells fs 142 (0, 0))) (h9 : fs[q + 9]? = some (.slice (some ⟨mb, 0, none⟩) L L)) (hm : w.heap[mb]? = some (R8 5 mem)) (hL : mem.length = L) (hab : w.heap[ab]? = some (.cells args 89 (0, 0))) (ha : args[0]? = some a) (hb : args[1]? = some b) (hn : args[2]? = some n) (hA : NumV w a D) (hB : NumV w b O) (hNn : NumV w n N) (hN : N ≤ 1000) (hsm : Small mem) (hfit : N = 0 ∨ D + N ≤ L) (hL2 : L ≤ 1000) :
    Calls Salg.prog 197 #[st, .pointer (some ⟨fb, q, none⟩), .int .u8 94, .slice (some ⟨ab, 0, none⟩) 3 3] w fun e w' => e = .returned (.bool true) ∧ w'.heap[mb]? = some (R8 5 (wrB mem D (cutB mem O N))) ∧ Kept [mb] w w' := by
  have M := Mem.start w []
  have HA := hid hA
  have HB := hid hB
  have HN := hid hNn
  have HSV : Hid (NatV w (.slice (some ⟨mb, 0, none⟩) L L) mem) := by
    have h := NatV.row hm hsm (by omega)
    rw [hL] at h
    exact h
  clear hA hB hNn
  go_enter Salg.func197, Salg.ntmps197
  go_wp2_with fail
  refine (operand_in 0 ab 3 3 args a _ hab (by decide) (by decide) ha).mono ?_
  rintro e w1 ⟨rfl, hw⟩
  replace hw := hw.symm
  subst hw
  go_wp2_with fail
  refine (operand_in 1 ab 3 3 args b _ hab (by decide) (by decide) hb).mono ?_
  rintro e w1 ⟨rfl, hw⟩
  replace hw := hw.symm
  subst hw
  go_wp2_with fail
  refine (operand_in 2 ab 3 3 args n _ hab (by decide) (by decide) hn).mono ?_
  rintro e w1 ⟨rfl, hw⟩
  replace hw := hw.symm
  subst hw
  go_wp2_with ((with_reducible apply W_loadCell); rfl; exact M.kept.row hr (by simp); exact h9; exact Salg.underlying40; rfl; simp only [Act.put, List.setIfInBounds_toArray, List.set_cons_zero, List.set_cons_succ])
  refine (bytesOf_all _ mem _ HSV.out).mono ?_
  rintro e w2 ⟨u, rfl, xHU, K⟩
  have HU := hid xHU
  replace HA := hid (HA.out.kept K)
  replace HB := hid (HB.out.kept K)
  replace HN := hid (HN.out.kept K)
  replace M := M.call K
  clear K xHU
  go_wp2_with fail
  refine (copied_any fb q mb D O N L fs a u b n mem mem _ (M.kept.row hr (by simp)) h9 (M.kept.row hm (by simp)) hL (HA.out) HU.out (HB.out) (HN.out) hN (by omega) hfit (by omega)).mono ?_
  rintro e w3 ⟨r, rfl, x3, K⟩
  have H3 := hid x3
  have HK := hid ((M.kept.mono (by simp)).trans K : Kept [mb] w w3)
  clear x3 K M
  go_wp2_with fail
  go_ret
  exact ⟨rfl, H3.out, HK.out⟩

set_option maxHeartbeats 4000000 in
set_option maxRecDepth 100000 in
theorem effectM_mstore (st a b : Value) (fb q mb ab A L : Nat) (fs args : Array Value) (mem bs : List Nat) (w : World) (hr : w.heap[fb]? = some (.cells fs 142 (0, 0))) (h9 : fs[q + 9]? = some (.slice (some ⟨mb, 0, none⟩) L L)) (hm : w.heap[mb]? = some (R8 5 mem)) (hL : mem.length = L) (hab : w.heap[ab]? = some (.cells args 89 (0, 0))) (ha : args[0]? = some a) (hb : args[1]? = some b) (hA : NumV w a A) (hB : NumV w b (be bs)) (hl : bs.length = 32) (hs : Small bs) (hfit : A + 32 ≤ L) (hL2 : L ≤ 1000) :
    Calls Salg.prog 197 #[st, .pointer (some ⟨fb, q, none⟩), .int .u8 82, .slice (some ⟨ab, 0, none⟩) 2 2] w fun e w' => e = .returned (.bool true) ∧ w'.heap[mb]? = some (R8 5 (wrB mem A bs)) ∧ Kept [mb] w w' := by
  have M := Mem.start w []
  have HA := hid hA
  have HB := hid hB
  have HS := hid hs
  clear hA hB hs
  go_enter Salg.func197, Salg.ntmps197
  go_wp2_with fail
  refine (operand_in 0 ab 2 2 args a _ hab (by decide) (by decide) ha).mono ?_
  rintro e w1 ⟨rfl, hw⟩
  replace hw := hw.symm
  subst hw
  go_wp2_with fail
  refine (operand_in 1 ab 2 2 args b _ hab (by decide) (by decide) hb).mono ?_
  rintro e w1 ⟨rfl, hw⟩
  replace hw := hw.symm
  subst hw
  go_wp2_with fail
  refine (operand_out 2 _ _ _ _ (by decide)).mono ?_
  rintro e w1 ⟨rfl, hw⟩
  replace hw := hw.symm
  subst hw
  go_wp2_with fail
  refine (word_any b bs _ HB.out hl HS.out).mono ?_
  rintro e w2 ⟨rfl, K⟩
  replace M := M.call K
  clear K
  go_wp2_with (first
    | ((with_reducible apply L_allocA M); exact zero46; clear M; intro t12 w3 ht12 M; simp only [Act.put, List.setIfInBounds_toArray, List.set_cons_zero, List.set_cons_succ])
    | ((with_reducible apply W_storeK (b := t12) (vs := (bs.map n8).toArray)); rfl; rfl; exact M.r0; exact size46; (simp [hl]); (intro u hu; simp at hu; obtain ⟨y, _, rfl⟩ := hu; rfl); intro w4 K hr3; replace M := Mem.callPut (L1 := []) M (Or.inr ht12) K hr3; clear K hr3; simp only [List.nil_append] at M)
    | ((with_reducible apply W_sliceArr (l := 0) (h := 32) (m := 32)); rfl; exact Salg.underlying46; exact size5; (first | exact Or.inl ⟨rfl, rfl⟩ | exact Or.inr ⟨_, _, _, rfl, rfl, by omega⟩); (first | exact Or.inl ⟨rfl, rfl⟩ | exact Or.inr ⟨_, _, _, rfl, rfl, by omega⟩); (first | exact Or.inl ⟨rfl, rfl⟩ | exact Or.inr ⟨_, _, _, rfl, rfl, by omega⟩); (first | exact Or.inl rfl | exact Or.inr rfl); omega; omega; omega; omega; (try simp only [Nat.zero_add, Nat.sub_zero]); simp only [Act.put, List.setIfInBounds_toArray, List.set_cons_zero, List.set_cons_succ]))
  refine (write_gen fb q mb t12 46 A 32 32 L fs a mem bs _ (M.kept.row hr (by simp)) h9 (M.kept.row hm (by simp)) M.r0 (HA.out.kept M.kept) hL hl hfit (by decide) (by omega)).mono ?_
  rintro e w5 ⟨r5, rfl, x5, K⟩
  have H5 := hid x5
  have HK := hid ((M.kept.mono (by simp)).trans K : Kept [mb] w w5)
  clear x5 K M
  go_wp2_with fail
  go_ret
  exact ⟨rfl, H5.out, HK.out⟩
end Go.Proofs.YgcsalGreat

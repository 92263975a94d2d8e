/-
  The walks of yp.cut, (*yp.Frame).grow, (*yp.State).cost.
-/
import Derived.Test.YgcsalGreatMv17
set_option linter.unusedSimpArgs false
set_option linter.unusedVariables false
namespace Go.Own
/-- j bytes of ds from m on, zeros past the end. -/
def cutB (ds : List Nat) (m j : Nat) : List Nat := (ds.drop m).take j ++ List.replicate (j - (ds.length - m)) 0
theorem cutB_length (ds : List Nat) (m j : Nat) : (cutB ds m j).length = j := by simp [cutB]; omega
theorem cutB_small {ds : List Nat} (h : Small ds) (m j : Nat) : Small (cutB ds m j) := by
  intro x hx
  rcases List.mem_append.1 hx with h1 | h1
  · exact h x (List.mem_of_mem_drop (List.mem_of_mem_take h1))
  · rw [List.mem_replicate] at h1; omega
theorem cutB_out {ds : List Nat} {m : Nat} (h : ds.length ≤ m) (j : Nat) : cutB ds m j = List.replicate j 0 := by
  rw [cutB, List.drop_of_length_le h, show ds.length - m = 0 by omega]; simp
theorem cutB_splice {ds : List Nat} {m : Nat} (j : Nat) : ((List.replicate j 0).map n8).toArray.toList.take 0 ++ ((ds.drop m).take j).map n8 ++ ((List.replicate j 0).map n8).toArray.toList.drop (0 + (((ds.drop m).take j).map n8).length) = (cutB ds m j).map n8 := by
  simp only [List.take_zero, List.nil_append, Nat.zero_add, List.length_map, List.length_take, List.length_drop, cutB, List.map_append, List.map_replicate, List.drop_replicate]
  congr 2
  omega
end Go.Own
namespace Go.Proofs.YgcsalGreat
open Go.RowKit Go.Own

set_option maxHeartbeats 4000000 in
set_option maxRecDepth 100000 in
theorem cut_any (cv ov nv : Value) (ds : List Nat) (m j : Nat) (w : World) (hc : NatV w cv ds) (ho : NumV w ov m) (hn : NumV w nv j) (hj : j ≤ 32) (hl : ds.length ≤ 1000) (hm : m ≤ 2000) :
    Calls Salg.prog 190 #[cv, ov, nv] w fun e w' => ∃ b, e = .returned (.slice (some ⟨b, 0, none⟩) j j) ∧ w'.heap[b]? = some (R8 5 (cutB ds m j)) ∧ Kept [] w w' := by
  have M := Mem.start w []
  have HSM := hid (small_any nv j w hn (by omega))
  have HO := hid ho
  clear ho hn
  rcases Nat.lt_or_ge m ds.length with hlt | hge
  · obtain ⟨p, c, rfl, hc1, hc2, hd, hsm⟩ := hc
    obtain ⟨b, t, cs, rfl, hrb, hpre⟩ := hd.at hlt
    have HC : Hid (∀ (k : Nat) (v : Value), (((ds.drop m).take j).map n8)[k]? = some v → (cs.map n8).toArray[m + k]? = some v) := by
      intro k v hk
      simp only [List.getElem?_map, Option.map_eq_some_iff] at hk
      obtain ⟨x, hx, rfl⟩ := hk
      have hkj : k < j := by
        have := (List.getElem?_eq_some_iff.1 hx).1
        simp at this; omega
      rw [List.getElem?_take_of_lt hkj, List.getElem?_drop] at hx
      have hlt2 := (List.getElem?_eq_some_iff.1 hx).1
      have := pre_get hpre hlt2
      rw [List.getElem?_eq_getElem hlt2] at hx
      simp only [Option.some.injEq] at hx
      simp [this, hx]
    have HLE : Hid ((((ds.drop m).take j).map n8).length = min (ds.length - m) j) := by show _ = _; simp; omega
    have HON : Hid (∀ v ∈ ((ds.drop m).take j).map n8, v.oneCell' = true) := by
      intro v hv
      obtain ⟨x, _, rfl⟩ := List.mem_map.1 hv
      rfl
    have HFI : Hid (0 + (((ds.drop m).take j).map n8).length ≤ ((List.replicate j 0).map n8).toArray.size) := by show _ ≤ _; simp; omega
    have HSP := hid (cutB_splice (ds := ds) (m := m) j)
    clear hd hpre hsm
    generalize ((ds.drop m).take j).map n8 = news at *
    generalize cutB ds m j = out at *
    generalize ds.length = n at *
    have HPL := hid (fun w' (K : Kept [] w w') => place_in ov m n w' (HO.out.kept K) (by omega) hlt)
    go_enter Salg.func190, Salg.ntmps190
    go_wp2_with fail
    refine HSM.out.mono ?_
    rintro e w1 ⟨rfl, rfl⟩
    go_wp2_with ((with_reducible apply W_make8 (n := j) M); rfl; rfl; rfl; rfl; omega; exact Salg.underlying40; exact info5; clear M; intro b1 w2 hb1 M; simp only [Act.put, List.setIfInBounds_toArray, List.set_cons_zero, List.set_cons_succ])
    refine (HPL.out _ M.kept).mono ?_
    rintro e w3 ⟨rfl, rfl⟩
    go_wp2_with ((with_reducible apply W_copyAt (b := b1) (o := 0) (b' := b) (so := m) (news := news) (cur := ((List.replicate j 0).map n8).toArray) (t := 5)); rfl; rfl; exact Salg.underlying40; exact size5; exact M.r0; exact M.kept.row hrb (by simp); exact HLE.out; exact HC.out; exact HFI.out; exact HON.out; intro w4 K hr4; rw [HSP.out] at hr4; replace M := Mem.callPut (L1 := []) M (Or.inr hb1) K hr4; clear K hr4; simp only [Act.put, List.setIfInBounds_toArray, List.set_cons_zero, List.set_cons_succ])
    go_ret
    exact ⟨b1, rfl, M.r0, M.kept⟩
  · have HCU := hid (cutB_out hge j)
    obtain ⟨p, c, rfl, hc1, hc2, hd, hsm⟩ := hc
    clear hd hsm
    generalize cutB ds m j = out at *
    generalize ds.length = n at *
    have HPL := hid (fun w' (K : Kept [] w w') => place_out ov m n w' (HO.out.kept K) (by omega) hge (by omega))
    go_enter Salg.func190, Salg.ntmps190
    go_wp2_with fail
    refine HSM.out.mono ?_
    rintro e w1 ⟨rfl, rfl⟩
    go_wp2_with ((with_reducible apply W_make8 (n := j) M); rfl; rfl; rfl; rfl; omega; exact Salg.underlying40; exact info5; clear M; intro b1 w2 hb1 M; simp only [Act.put, List.setIfInBounds_toArray, List.set_cons_zero, List.set_cons_succ])
    refine (HPL.out _ M.kept).mono ?_
    rintro e w3 ⟨rfl, rfl⟩
    go_wp2_with fail
    go_ret
    exact ⟨b1, rfl, by rw [HCU.out]; exact M.r0, M.kept⟩

set_option maxHeartbeats 4000000 in
set_option maxRecDepth 100000 in
theorem grow_nil (fb : Nat) (fs : Array Value) (w : World) (hr : w.heap[fb]? = some (.cells fs 142 (0, 0))) (h9 : fs[9]? = some (.slice none 0 0)) :
    Calls Salg.prog 113 #[.pointer (some ⟨fb, 0, none⟩), .slice none 0 0] w fun e w' => ∃ r, e = .returned r ∧ Kept [] w w' := by
  have M := Mem.start w []
  have HW := hid (words_any (.slice none 0 0) 0 w (nil_num w) (by decide))
  go_enter Salg.func113, Salg.ntmps113
  go_wp2_with fail
  refine (HW.out).mono ?_
  rintro e w1 ⟨r, rfl, xHR, K⟩
  have HR := hid xHR
  replace M := M.call K
  clear K xHR
  go_wp2_with fail
  refine (small_any r ((0 + 31) / 32) _ HR.out (by decide)).mono ?_
  rintro e w2 ⟨rfl, rfl⟩
  go_wp2_with ((with_reducible apply W_loadCell); rfl; exact M.kept.row hr (by simp); exact h9; exact Salg.underlying40; rfl; simp only [Act.put, List.setIfInBounds_toArray, List.set_cons_zero, List.set_cons_succ])
  go_end0
  exact ⟨_, rfl, M.kept⟩

set_option maxHeartbeats 4000000 in
set_option maxRecDepth 100000 in
theorem cost_any (st : Value) (fb o t g i c : Nat) (fs : Array Value) (w : World) (hk : OpK o t g i c) (hr : w.heap[fb]? = some (.cells fs 142 (0, 0))) (h9 : fs[9]? = some (.slice none 0 0)) :
    Calls Salg.prog 183 #[st, .pointer (some ⟨fb, 0, none⟩), .int .u8 o] w fun e w' => ∃ r, e = .returned r ∧ NumV w' r c ∧ Kept [] w w' := by
  have M := Mem.start w []
  have HK := hid hk
  clear hk
  go_enter Salg.func183, Salg.ntmps183
  go_wp2_with fail
  refine (HK.out.co _ _ _).mono ?_
  rintro e w1 ⟨r, rfl, xHR, K⟩
  have HR := hid xHR
  replace M := M.call K
  clear K xHR
  go_wp2_with ((with_reducible apply W_loadCell); rfl; exact M.kept.row hr (by simp); exact h9; exact Salg.underlying40; rfl; simp only [Act.put, List.setIfInBounds_toArray, List.set_cons_zero, List.set_cons_succ])
  refine (num_int _ 0 rfl (by decide) _).mono ?_
  rintro e w2 ⟨r2, rfl, xHR2, K⟩
  have HR2 := hid xHR2
  replace HR := hid (HR.out.kept K)
  replace M := M.call K
  clear K xHR2
  go_wp2_with fail
  refine (HK.out.re _ _).mono ?_
  rintro e w3 ⟨rfl, rfl⟩
  go_wp2_with fail
  refine (words_any _ 0 _ (nil_num _) (by decide)).mono ?_
  rintro e w4 ⟨r3, rfl, xHR3, K⟩
  have HR3 := hid xHR3
  replace HR := hid (HR.out.kept K)
  replace HR2 := hid (HR2.out.kept K)
  replace M := M.call K
  clear K xHR3
  go_wp2_with fail
  have HCM := hid (cmp_num r3 r2 ((0 + 31) / 32) 0 w4 HR3.out HR2.out)
  refine (HCM.out).mono ?_
  rintro e w5 ⟨rfl, K⟩
  replace HR := hid (HR.out.kept K)
  replace M := M.call K
  clear K
  have hz : cmpI ((0 + 31) / 32) 0 = 0 := by decide
  rw [hz]
  go_wp2_with fail
  go_ret
  exact ⟨_, rfl, HR.out, M.kept⟩
end Go.Proofs.YgcsalGreat

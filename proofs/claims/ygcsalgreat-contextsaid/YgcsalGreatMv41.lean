/-
  The run of the eighteen instructions.
-/
import Derived.Test.YgcsalGreatMv26
import Derived.Test.YgcsalGreatMv36
import Derived.Test.YgcsalGreatMv37
set_option linter.unusedSimpArgs false
set_option linter.unusedVariables false
namespace Go.Own
theorem pushB_len {fl : List Nat} (h : fl.length = 136) : ∀ {i : Nat}, i ≤ 17 → (pushB fl i).length = 9 * i
  | 0, _ => rfl
  | i + 1, hi => by
    rw [pushB_succ, List.length_append, List.length_append, pushB_len h (by omega), wsI_len h (by omega)]
    simp
    omega
theorem pushB_split (fl : List Nat) (j : Nat) : ∀ k, j < k → ∃ rest, pushB fl k = pushB fl j ++ (103 :: (wsI fl j ++ rest))
  | 0, h => by omega
  | k + 1, h => by
    rcases Nat.lt_or_ge j k with h1 | h1
    · obtain ⟨r, hr⟩ := pushB_split fl j k h1
      exact ⟨r ++ (103 :: wsI fl k), by rw [pushB_succ, hr]; simp⟩
    · obtain rfl : j = k := by omega
      exact ⟨[], by rw [pushB_succ]; simp⟩
theorem at_op {fl tl : List Nat} (h : fl.length = 136) {j : Nat} (hj : j < 17) : (pushB fl 17 ++ tl)[9 * j]? = some 103 := by
  obtain ⟨r, hr⟩ := pushB_split fl j 17 hj
  rw [hr, List.append_assoc, List.getElem?_append_right (by rw [pushB_len h (by omega)]; omega), pushB_len h (by omega), Nat.sub_self]
  rfl
theorem at_word {fl tl : List Nat} (h : fl.length = 136) {j : Nat} (hj : j < 17) : cutB (pushB fl 17 ++ tl) (9 * j + 1) 8 = wsI fl j := by
  obtain ⟨r, hr⟩ := pushB_split fl j 17 hj
  have hl : (pushB fl j).length = 9 * j := pushB_len h (by omega)
  have hw : (wsI fl j).length = 8 := wsI_len h hj
  have e : (pushB fl 17 ++ tl).drop (9 * j + 1) = wsI fl j ++ (r ++ tl) := by
    rw [hr]
    simp only [List.append_assoc, List.cons_append]
    rw [List.drop_append, List.drop_of_length_le (by omega), List.nil_append, hl, show 9 * j + 1 - 9 * j = 1 by omega]
    rfl
  have hlen : (pushB fl 17 ++ tl).length - (9 * j + 1) = 8 + (r ++ tl).length := by
    have := congrArg List.length e
    rw [List.length_drop] at this
    rw [this, List.length_append, hw]
  rw [cutB, e, hlen, List.take_append_of_le_length (by omega), List.take_of_length_le (by omega), show 8 - (8 + (r ++ tl).length) = 0 by omega]
  simp
theorem at_last {fl tl : List Nat} (h : fl.length = 136) (k : Nat) : (pushB fl 17 ++ tl)[153 + k]? = tl[k]? := by
  rw [List.getElem?_append_right (by rw [pushB_len h (Nat.le_refl _)]; omega), pushB_len h (Nat.le_refl _), show 153 + k - 9 * 17 = k by omega]
def nsAt (fl : List Nat) (j : Nat) : List Nat := (List.range j).map fun i => be (wsI fl i)
theorem nsAt_succ (fl : List Nat) (j : Nat) : nsAt fl (j + 1) = nsAt fl j ++ [be (wsI fl j)] := by simp [nsAt, List.range_succ]
theorem nsAt_len (fl : List Nat) (j : Nat) : (nsAt fl j).length = j := by simp [nsAt]
theorem be_lead (k : Nat) (l : List Nat) : be (List.replicate k 0 ++ l) = be l := by
  rw [be_app, be_zeros (by intro x hx; rw [List.mem_replicate] at hx; exact hx.2)]
  omega
theorem nsAt_want (fl : List Nat) : nsAt fl 17 = (wantP fl 17).map be := by
  simp only [nsAt, wantP, Nat.sub_self, List.replicate_zero, List.append_nil, List.map_map]
  apply List.map_congr_left
  intro j _
  exact (be_lead 24 _).symm
theorem pushB_small {fl : List Nat} (h : Small fl) (k : Nat) : Small (pushB fl k) := by
  intro x hx
  simp only [pushB, List.mem_flatMap, List.mem_cons] at hx
  obtain ⟨j, _, h1⟩ := hx
  rcases h1 with rfl | h1
  · decide
  · exact wsI_small h j x h1
theorem swap_w0 (f : Nat → List Nat) : swapL ((List.range 17).map f) (0 + 2) = (((List.range 17).map f).set 16 (f (15 - 0))).set (15 - 0) (f 16) := by kernel_rfl
theorem swap_w1 (f : Nat → List Nat) : swapL ((List.range 17).map f) (1 + 2) = (((List.range 17).map f).set 16 (f (15 - 1))).set (15 - 1) (f 16) := by kernel_rfl
theorem swap_w2 (f : Nat → List Nat) : swapL ((List.range 17).map f) (2 + 2) = (((List.range 17).map f).set 16 (f (15 - 2))).set (15 - 2) (f 16) := by kernel_rfl
theorem swap_w3 (f : Nat → List Nat) : swapL ((List.range 17).map f) (3 + 2) = (((List.range 17).map f).set 16 (f (15 - 3))).set (15 - 3) (f 16) := by kernel_rfl
theorem swap_w4 (f : Nat → List Nat) : swapL ((List.range 17).map f) (4 + 2) = (((List.range 17).map f).set 16 (f (15 - 4))).set (15 - 4) (f 16) := by kernel_rfl
theorem swap_w5 (f : Nat → List Nat) : swapL ((List.range 17).map f) (5 + 2) = (((List.range 17).map f).set 16 (f (15 - 5))).set (15 - 5) (f 16) := by kernel_rfl
theorem swap_w6 (f : Nat → List Nat) : swapL ((List.range 17).map f) (6 + 2) = (((List.range 17).map f).set 16 (f (15 - 6))).set (15 - 6) (f 16) := by kernel_rfl
theorem swap_w7 (f : Nat → List Nat) : swapL ((List.range 17).map f) (7 + 2) = (((List.range 17).map f).set 16 (f (15 - 7))).set (15 - 7) (f 16) := by kernel_rfl
theorem swap_w8 (f : Nat → List Nat) : swapL ((List.range 17).map f) (8 + 2) = (((List.range 17).map f).set 16 (f (15 - 8))).set (15 - 8) (f 16) := by kernel_rfl
theorem swap_w9 (f : Nat → List Nat) : swapL ((List.range 17).map f) (9 + 2) = (((List.range 17).map f).set 16 (f (15 - 9))).set (15 - 9) (f 16) := by kernel_rfl
theorem swap_w10 (f : Nat → List Nat) : swapL ((List.range 17).map f) (10 + 2) = (((List.range 17).map f).set 16 (f (15 - 10))).set (15 - 10) (f 16) := by kernel_rfl
theorem swap_w11 (f : Nat → List Nat) : swapL ((List.range 17).map f) (11 + 2) = (((List.range 17).map f).set 16 (f (15 - 11))).set (15 - 11) (f 16) := by kernel_rfl
theorem swap_w12 (f : Nat → List Nat) : swapL ((List.range 17).map f) (12 + 2) = (((List.range 17).map f).set 16 (f (15 - 12))).set (15 - 12) (f 16) := by kernel_rfl
theorem swap_w13 (f : Nat → List Nat) : swapL ((List.range 17).map f) (13 + 2) = (((List.range 17).map f).set 16 (f (15 - 13))).set (15 - 13) (f 16) := by kernel_rfl
theorem swap_w14 (f : Nat → List Nat) : swapL ((List.range 17).map f) (14 + 2) = (((List.range 17).map f).set 16 (f (15 - 14))).set (15 - 14) (f 16) := by kernel_rfl
theorem swap_w15 (f : Nat → List Nat) : swapL ((List.range 17).map f) (15 + 2) = (((List.range 17).map f).set 16 (f (15 - 15))).set (15 - 15) (f 16) := by kernel_rfl
theorem swap_want (f : Nat → List Nat) : ∀ (r : Nat), r < 16 → swapL ((List.range 17).map f) (r + 2) = (((List.range 17).map f).set 16 (f (15 - r))).set (15 - r) (f 16)
  | 0, _ => swap_w0 f
  | 1, _ => swap_w1 f
  | 2, _ => swap_w2 f
  | 3, _ => swap_w3 f
  | 4, _ => swap_w4 f
  | 5, _ => swap_w5 f
  | 6, _ => swap_w6 f
  | 7, _ => swap_w7 f
  | 8, _ => swap_w8 f
  | 9, _ => swap_w9 f
  | 10, _ => swap_w10 f
  | 11, _ => swap_w11 f
  | 12, _ => swap_w12 f
  | 13, _ => swap_w13 f
  | 14, _ => swap_w14 f
  | 15, _ => swap_w15 f
  | n + 16, h => by omega
theorem swap_map (xs : List (List Nat)) (t : Nat) : swapL (xs.map be) t = (swapL xs t).map be := by simp [swapL, List.map_take, List.map_drop]
theorem want_range (fl : List Nat) : wantP fl 17 = (List.range 17).map (fun j => w8L (wsI fl j)) := by simp [wantP]
theorem FrameV.start {w : World} {fb : Nat} {cur : Array Value} {gv vv cu iu a0 a1 a3 : Value} {G : Nat} (hr : w.heap[fb]? = some (.cells cur 142 (0, 0))) (hc : ∀ k, k < 60 → cur[k]? = (frL gv vv cu iu (wrow a0 a1 a3))[k]?) (hg : NumV w gv G) (hn : NumV w nilS 0) : FrameV w fb cur 0 G [] :=
  ⟨cur, nilS, gv, nilS, [], hr, fun _ _ _ _ => rfl, (hc 3 (by decide)).trans (by kernel_rfl), hn, (hc 4 (by decide)).trans (by kernel_rfl), hg, (hc 8 (by decide)).trans (by kernel_rfl), .inl ⟨rfl, rfl⟩, ⟨rfl, by intro k v n h; simp at h⟩⟩
theorem row_ne' {w : World} {c fb : Nat} {cs cur : Array Value} (h : w.heap[c]? = some (.cells cs 119 (0, 0))) (hf : w.heap[fb]? = some (.cells cur 142 (0, 0))) : c ≠ fb := by
  rintro rfl
  rw [h] at hf
  cases hf
end Go.Own
namespace Go.Proofs.YgcsalGreat
open Go.RowKit Go.Own
theorem run_any (c fb cap : Nat) (cs cur : Array Value) (gv vv cu2 iu a0 a1 a3 : Value) (fl tl ms : List Nat) (o t g i k : Nat) (w : World) (hc : w.heap[c]? = some (.cells cs 119 (0, 0))) (k9 : cs[9]? = some (.slice (some ⟨fb, 0, none⟩) 1 cap)) (k11 : cs[11]? = some (.int .u8 1)) (hf : w.heap[fb]? = some (.cells cur 142 (0, 0))) (hcur : ∀ k, k < 60 → cur[k]? = (frL gv vv cu2 iu (wrow a0 a1 a3))[k]?) (hg : NumV w gv 179000) (hcu : NatV w cu2 (pushB fl 17 ++ tl))
    (hfl : fl.length = 136) (hl : (pushB fl 17 ++ tl).length ≤ 1000) (ho : tl[0]? = some o) (hk : OpK o t g i k) (hpl : PlainK fb cur o 153 i (nsAt fl 17) ms cu2 (pushB fl 17 ++ tl)) (ht : t ≤ 17) :
    Calls Salg.prog 18 #[.pointer (some ⟨c, 0, none⟩), .int .i64 18] w fun e w' => ∃ r, e = .returned r ∧ FrameV w' fb cur (153 + (1 + i)) (178949 - k) ms ∧ Kept [fb] w w' := by
  have hnb : ∀ t l, Obj.cells cur 142 (0, 0) ≠ R8 t l := not_bytes_at (i := 3) (p := none) (n := 0) (m := 0) ((hcur 3 (by decide)).trans (by kernel_rfl))
  have hcf : c ≠ fb := row_ne' hc hf
  have f1 : cur[1]? = some (.int .u8 0) := (hcur 1 (by decide)).trans (by kernel_rfl)
  have f2 : cur[2]? = some (.bool false) := (hcur 2 (by decide)).trans (by kernel_rfl)
  have f9 : cur[9]? = some (.slice none 0 0) := (hcur 9 (by decide)).trans (by kernel_rfl)
  have f10 : cur[10]? = some cu2 := (hcur 10 (by decide)).trans (by kernel_rfl)
  refine (stepped_any c 18 (fun j w' => (j ≤ 17 → FrameV w' fb cur (9 * j) (179000 - 3 * j) (nsAt fl j)) ∧ (j = 18 → FrameV w' fb cur (153 + (1 + i)) (178949 - k) ms) ∧ Kept [fb] w w') w (by decide) ?_ ?_).mono ?_
  · exact ⟨fun _ => FrameV.start hf hcur hg (nil_num w), by omega, Kept.refl _ _⟩
  · intro j w' hj hS
    obtain ⟨h1, _, K⟩ := hS
    have hF := h1 (by omega)
    have hc' := K.row hc (by simpa using hcf)
    have hcu' := hcu.keptC K hf hnb
    rcases Nat.lt_or_ge j 17 with hlt | hge
    · refine (step_any c fb (9 * j) (179000 - 3 * j) 103 0 1 8 3 cs cur cap (nsAt fl j) _ cu2 _ w' (opk_push 103 (by decide) (by decide)) (plainK_push fb (9 * j) 103 8 3 cur cu2 (pushB fl 17 ++ tl) (nsAt fl j) (opk_push 103 (by decide) (by decide)) (by decide) (by decide) f10 (by rw [nsAt_len]; omega) (by omega) (by omega) hl) hc' k9 k11 hF hcu' (at_op hfl hlt) hl f1 f2 f9 f10 (by omega) (by rw [nsAt_len]; omega) (by omega) (by omega)).mono ?_
      rintro e w2 ⟨r, rfl, hF2, K2⟩
      refine ⟨r, rfl, fun _ => ?_, by omega, K.trans K2⟩
      rw [at_word hfl hlt, ← nsAt_succ] at hF2
      rw [show 9 * (j + 1) = 9 * j + (1 + 8) by omega, show 179000 - 3 * (j + 1) = 179000 - 3 * j - 3 by omega]
      exact hF2
    · obtain rfl : j = 17 := by omega
      refine (step_any c fb 153 178949 o t g i k cs cur cap (nsAt fl 17) ms cu2 _ w' hk hpl hc' k9 k11 hF hcu' ((at_last hfl 0).trans ho) hl f1 f2 f9 f10 (by rw [nsAt_len]; exact ht) (by rw [nsAt_len]; decide) (Nat.le_trans hk.hc (by decide)) (by decide)).mono ?_
      rintro e w2 ⟨r, rfl, hF2, K2⟩
      exact ⟨r, rfl, by omega, fun _ => hF2, K.trans K2⟩
  · rintro e w' ⟨r, rfl, _, h2, K⟩
    exact ⟨r, rfl, h2 rfl, K⟩
end Go.Proofs.YgcsalGreat

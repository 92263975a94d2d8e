/-
  The walk of (*yp.Frame).wait (nothing asked for).
-/
import Derived.Test.YgcsalGreatSl20
import Derived.Test.YgcsalGreatYp4
set_option linter.unusedSimpArgs false
set_option linter.unusedVariables false
namespace Go.Proofs.YgcsalGreat
open Go.RowKit Go.Own

set_option maxHeartbeats 4000000 in
set_option maxRecDepth 100000 in
theorem wait_zero (fb q t O : Nat) (fs : Array Value) (sv ov nv : Value) (xs : List Value) (w : World) (hr : w.heap[fb]? = some (.cells fs 142 (0, 0))) (h8 : fs[q + 8]? = some sv) (hs : RowV w 89 sv xs) (ho : NumV w ov O) (hn : NumV w nv 0) (hl : xs.length ≤ 40) (hlt : t ≤ xs.length) :
    Calls Salg.prog 221 #[.pointer (some ⟨fb, q, none⟩), .int .i64 t, ov, nv] w fun e w' => ∃ (r : Value) (p : Option Addr) (r6 r7 : Value), e = .returned r ∧ Kept [fb] w w' ∧ w'.heap[fb]? = some (.cells ((((fs.setIfInBounds (q + 8) (.slice p (xs.length - t) (xs.length - t))).setIfInBounds (q + 6) r6).setIfInBounds (q + 7) r7).setIfInBounds (q + 6) nilS) 142 (0, 0)) ∧ RowV w' 89 (.slice p (xs.length - t) (xs.length - t)) (xs.take (xs.length - t)) ∧ NumV w' r7 0 := by
  have M := Mem.start w []
  have HO := hid ho
  have HN := hid hn
  obtain ⟨p, cap, rfl⟩ : ∃ p cap, sv = .slice p xs.length cap := by
    rcases hs with ⟨rfl, rfl⟩ | ⟨g, cap, cur, rfl, _⟩
    · exact ⟨none, 0, rfl⟩
    · exact ⟨_, _, rfl⟩
  have z8 : q + 8 < fs.size := (Array.getElem?_eq_some_iff.1 h8).1
  have HNB1 := hid (not_bytes_at (tc := 142) h8)
  have HCT := hid (hs.cut (xs.length - t) (by omega))
  have hcap := HCT.out.1
  have HT : Hid (RowV w 89 (.slice p (xs.length - t) (xs.length - t)) (xs.take (xs.length - t))) := HCT.out.2.row
  clear ho hs HCT hn
  obtain ⟨n, hnn⟩ : ∃ n, n = xs.length := ⟨_, rfl⟩
  rw [← hnn] at HT hcap hl hlt h8 ⊢
  clear hnn
  have HNB2 : Hid (∀ t' l, Obj.cells (fs.setIfInBounds (q + 8) (Value.slice p (n - t) (n - t))) 142 (0, 0) ≠ R8 t' l) := not_bytes_at (i := q + 8) (Array.getElem?_setIfInBounds_self_of_lt z8)
  have HNB3 : Hid (∀ r6 t' l, Obj.cells ((fs.setIfInBounds (q + 8) (Value.slice p (n - t) (n - t))).setIfInBounds (q + 6) r6) 142 (0, 0) ≠ R8 t' l) := fun r6 => not_bytes_at (i := q + 8) ((Array.getElem?_setIfInBounds_ne (by omega)).trans (Array.getElem?_setIfInBounds_self_of_lt z8))
  have HNB4 : Hid (∀ r6 r7 t' l, Obj.cells (((fs.setIfInBounds (q + 8) (Value.slice p (n - t) (n - t))).setIfInBounds (q + 6) r6).setIfInBounds (q + 7) r7) 142 (0, 0) ≠ R8 t' l) := fun r6 r7 => not_bytes_at (i := q + 8) ((Array.getElem?_setIfInBounds_ne (by omega)).trans ((Array.getElem?_setIfInBounds_ne (by omega)).trans (Array.getElem?_setIfInBounds_self_of_lt z8)))
  have HROW := hid hr
  have HKA : Hid (Kept [fb] w w) := Kept.refl _ _
  go_enter Salg.func221, Salg.ntmps221
  go_wp2_with (first
    | ((with_reducible apply W_loadCell); rfl; exact M.kept.row hr (by simp); exact h8; exact Salg.underlying140; rfl; simp only [Act.put, List.setIfInBounds_toArray, List.set_cons_zero, List.set_cons_succ])
    | ((with_reducible apply W_slice3 (n := n - t)); rfl; rfl; rfl; (first | rfl | omega); (first | rfl | omega); exact Salg.underlying140; exact ⟨1, size89⟩; exact hcap; simp only [Act.put, List.setIfInBounds_toArray, List.set_cons_zero, List.set_cons_succ])
    | ((with_reducible apply W_stV (b := fb) (o := q + 8) (v := (Value.slice p (n - t) (n - t)))); rfl; rfl; exact rfl; exact (M.kept.row HROW.out (by simp)); exact size140; (first | omega | (simp; omega)); intro w1x K hr4; have HRO := hid (M.kept.row HROW.out (by simp)); replace HO := hid ((HO.out.kept M.kept).keptC K HRO.out HNB1.out); replace HN := hid ((HN.out.kept M.kept).keptC K HRO.out HNB1.out); replace HT := hid ((HT.out.kept M.kept).keptC K HRO.out (by decide)); replace HKA := hid ((HKA.out.trans (M.kept.mono (by simp))).trans K); replace HROW := hid hr4; replace M := Mem.start w1x []; clear K hr4 HRO))
  refine (norm_num ov O _ (HO.out.kept M.kept)).mono ?_
  rintro e w2 ⟨r6, rfl, xH6, K⟩
  have H6 := hid xH6
  replace M := M.call K
  clear K xH6
  go_wp2_with ((with_reducible apply W_stV (b := fb) (o := q + 6) (v := r6)); rfl; rfl; exact H6.out.one; exact (M.kept.row HROW.out (by simp)); exact size89; (first | omega | (simp; omega)); intro w2x K hr4; have HRO := hid (M.kept.row HROW.out (by simp)); replace HN := hid ((HN.out.kept M.kept).keptC K HRO.out HNB2.out); replace HT := hid ((HT.out.kept M.kept).keptC K HRO.out (by decide)); replace HKA := hid ((HKA.out.trans (M.kept.mono (by simp))).trans K); replace HROW := hid hr4; replace M := Mem.start w2x []; clear K hr4 HRO)
  refine (norm_num nv 0 _ (HN.out.kept M.kept)).mono ?_
  rintro e w3 ⟨r7, rfl, xH7, K⟩
  have H7 := hid xH7
  replace M := M.call K
  clear K xH7
  have HNB3 := hid (HNB3.out r6)
  have HNB4 := hid (HNB4.out r6 r7)
  go_wp2_with ((with_reducible apply W_stV (b := fb) (o := q + 7) (v := r7)); rfl; rfl; exact H7.out.one; exact (M.kept.row HROW.out (by simp)); exact size89; (first | omega | (simp; omega)); intro w3x K hr4; have HRO := hid (M.kept.row HROW.out (by simp)); replace HN := hid ((HN.out.kept M.kept).keptC K HRO.out HNB3.out); replace H7 := hid (H7.out.keptC K HRO.out HNB3.out); replace HT := hid ((HT.out.kept M.kept).keptC K HRO.out (by decide)); replace HKA := hid ((HKA.out.trans (M.kept.mono (by simp))).trans K); replace HROW := hid hr4; replace M := Mem.start w3x []; clear K hr4 HRO)
  refine (isZero_lit nv 0 true (by decide) _ (HN.out.kept M.kept)).mono ?_
  rintro e w4 ⟨rfl, K⟩
  replace H7 := hid (H7.out.kept K)
  replace M := M.call K
  clear K
  go_wp2_with ((with_reducible apply W_stV (b := fb) (o := q + 6) (v := nilS)); rfl; rfl; exact rfl; exact (M.kept.row HROW.out (by simp)); exact size89; (first | omega | (simp; omega)); intro w4x K hr4; have HRO := hid (M.kept.row HROW.out (by simp)); replace H7 := hid (H7.out.keptC K HRO.out HNB4.out); replace HT := hid ((HT.out.kept M.kept).keptC K HRO.out (by decide)); replace HKA := hid ((HKA.out.trans (M.kept.mono (by simp))).trans K); replace HROW := hid hr4; replace M := Mem.start w4x []; clear K hr4 HRO)
  go_end0
  exact ⟨_, p, r6, r7, rfl, HKA.out, HROW.out, HT.out, H7.out⟩
end Go.Proofs.YgcsalGreat

/-
  The run's steps on the run's state.
-/
import Derived.Test.YgcsalGreatSl32
import Derived.Test.YgcsalGreatSl26
set_option linter.unusedSimpArgs false
set_option linter.unusedVariables false
namespace Go.Own
/-- What no step harms. -/
structure Stable (A : World → Prop) : Prop where
  kept : ∀ w w', A w → Kept [] w w' → A w'
  keptC : ∀ w w' b cs tc, A w → Kept [b] w w' → w.heap[b]? = some (.cells cs tc (0, 0)) → (∀ t l, Obj.cells cs tc (0, 0) ≠ R8 t l) → tc = 119 ∨ tc = 142 → A w'
theorem Kept.outer {w0 w w' : World} {c fb : Nat} (h : Kept [c] w0 w) (k : Kept [c, fb] w w') (hf : w0.heap.size ≤ fb) : Kept [c] w0 w' := by
  refine ⟨k.os.trans h.os, k.tape.trans h.tape, k.output.trans h.output, Nat.le_trans h.size k.size, fun i hi hx => ?_⟩
  rw [k.block i (Nat.lt_of_lt_of_le hi h.size) (by simp at hx ⊢; exact ⟨hx, by omega⟩)]
  exact h.block i hi hx
/-- The state between two steps. -/
structure StV (w0 : World) (A : World → Prop) (c fb q n cap : Nat) (fs0 : Array Value) (m G : Nat) (ns : List Nat) (mv : Value) (la : List (List Nat)) (mo : Option Nat) (so : Option (Nat × Nat)) (R : Nat) (ds1 ds2 : List Nat) (w : World) : Prop where
  k : Kept [c] w0 w
  b : w0.heap.size ≤ fb
  ch : ChainV w c (.slice (some ⟨fb, 0, none⟩) n cap) la mo so R ds1 ds2
  fr : FrameQ w fb q fs0 m G ns mv
  a : A w
theorem FrameQ.row {w : World} {fb q : Nat} {fs0 : Array Value} {m G : Nat} {ns : List Nat} {mv : Value} (h : FrameQ w fb q fs0 m G ns mv) : ∃ fs, w.heap[fb]? = some (.cells fs 142 (0, 0)) ∧ ∀ t l, Obj.cells fs 142 (0, 0) ≠ R8 t l := by
  obtain ⟨fs, pv, gv, sv, xs, h1, h0, h2, h3, h4, h5, h6, h7, h8, h9, ha⟩ := h
  obtain ⟨p, n, k, rfl⟩ := Go.Proofs.YgcsalGreat.rowV_slice h8
  exact ⟨fs, h1, not_bytes_at (tc := 142) h7⟩
theorem ChainV.row {w : World} {c : Nat} {fr : Value} {la : List (List Nat)} {mo : Option Nat} {so : Option (Nat × Nat)} {R : Nat} {ds1 ds2 : List Nat} (h : ChainV w c fr la mo so R ds1 ds2) : ∃ cs, w.heap[c]? = some (.cells cs 119 (0, 0)) ∧ cs[9]? = some fr ∧ cs[11]? = some (.int .u8 1) ∧ ∀ t l, Obj.cells cs 119 (0, 0) ≠ R8 t l := by
  obtain ⟨vz, wz, mv, rv, lim, gv, pr, tv, h1, _⟩ := h
  exact ⟨_, h1, by kernel_rfl, by kernel_rfl, chR_nb _ _ _ _ _ _ _ _ _⟩
/-- Only the frame's row was written. -/
theorem StV.frame {w0 : World} {A : World → Prop} {c fb q n cap : Nat} {fs0 fs1 : Array Value} {m G m' G' : Nat} {ns ns' : List Nat} {mv mv' : Value} {la : List (List Nat)} {mo : Option Nat} {so : Option (Nat × Nat)} {R : Nat} {ds1 ds2 : List Nat} {w w' : World} (h : StV w0 A c fb q n cap fs0 m G ns mv la mo so R ds1 ds2 w) (hA : Stable A) (K : Kept [fb] w w') (hF : FrameQ w' fb q fs1 m' G' ns' mv') : StV w0 A c fb q n cap fs1 m' G' ns' mv' la mo so R ds1 ds2 w' := by
  obtain ⟨fs, h1, h2⟩ := h.fr.row
  exact ⟨h.k.outer (K.mono (by simp)) h.b, h.b, h.ch.keptC K h1 h2, hF, hA.keptC _ _ _ _ _ h.a K h1 h2 (.inr rfl)⟩
end Go.Own
namespace Go.Proofs.YgcsalGreat
open Go.RowKit Go.Own

set_option maxHeartbeats 4000000 in
set_option maxRecDepth 100000 in
theorem growk_00 (fb q : Nat) (fs : Array Value) (mp : Option Addr) (mc : Nat) (r : Value) (w : World) (hr : w.heap[fb]? = some (.cells fs 142 (0, 0))) (h9 : fs[q + 9]? = some (.slice mp 0 mc)) (hu : NumV w r 0) :
    Calls Salg.prog 113 #[.pointer (some ⟨fb, q, none⟩), r] w fun e w' => ∃ r', e = .returned r' ∧ Kept [] w w' := by
  have M := Mem.start w []
  have HW := hid (words_any r 0 w hu (by decide))
  clear hu
  go_enter Salg.func113, Salg.ntmps113
  go_wp2_with fail
  refine (HW.out).mono ?_
  rintro e w1 ⟨r1, rfl, xHR, K⟩
  have HR := hid xHR
  replace M := M.call K
  clear K xHR
  go_wp2_with fail
  refine (small_any r1 ((0 + 31) / 32) _ HR.out (by decide)).mono ?_
  rintro e w2 ⟨rfl, hw⟩
  replace hw := hw.symm
  subst hw
  go_wp2_with ((with_reducible apply W_loadCell); rfl; exact M.kept.row hr (by simp); exact h9; exact Salg.underlying40; rfl; simp only [Act.put, List.setIfInBounds_toArray, List.set_cons_zero, List.set_cons_succ])
  go_end0
  exact ⟨_, rfl, M.kept⟩

set_option maxHeartbeats 4000000 in
set_option maxRecDepth 100000 in
theorem growk_10 (fb q : Nat) (fs : Array Value) (mp : Option Addr) (mc : Nat) (r : Value) (w : World) (hr : w.heap[fb]? = some (.cells fs 142 (0, 0))) (h9 : fs[q + 9]? = some (.slice mp 32 mc)) (hu : NumV w r 0) :
    Calls Salg.prog 113 #[.pointer (some ⟨fb, q, none⟩), r] w fun e w' => ∃ r', e = .returned r' ∧ Kept [] w w' := by
  have M := Mem.start w []
  have HW := hid (words_any r 0 w hu (by decide))
  clear hu
  go_enter Salg.func113, Salg.ntmps113
  go_wp2_with fail
  refine (HW.out).mono ?_
  rintro e w1 ⟨r1, rfl, xHR, K⟩
  have HR := hid xHR
  replace M := M.call K
  clear K xHR
  go_wp2_with fail
  refine (small_any r1 ((0 + 31) / 32) _ HR.out (by decide)).mono ?_
  rintro e w2 ⟨rfl, hw⟩
  replace hw := hw.symm
  subst hw
  go_wp2_with ((with_reducible apply W_loadCell); rfl; exact M.kept.row hr (by simp); exact h9; exact Salg.underlying40; rfl; simp only [Act.put, List.setIfInBounds_toArray, List.set_cons_zero, List.set_cons_succ])
  go_end0
  exact ⟨_, rfl, M.kept⟩

set_option maxHeartbeats 4000000 in
set_option maxRecDepth 100000 in
theorem growk_11 (fb q : Nat) (fs : Array Value) (mp : Option Addr) (mc : Nat) (r : Value) (w : World) (hr : w.heap[fb]? = some (.cells fs 142 (0, 0))) (h9 : fs[q + 9]? = some (.slice mp 32 mc)) (hu : NumV w r 32) :
    Calls Salg.prog 113 #[.pointer (some ⟨fb, q, none⟩), r] w fun e w' => ∃ r', e = .returned r' ∧ Kept [] w w' := by
  have M := Mem.start w []
  have HW := hid (words_any r 32 w hu (by decide))
  clear hu
  go_enter Salg.func113, Salg.ntmps113
  go_wp2_with fail
  refine (HW.out).mono ?_
  rintro e w1 ⟨r1, rfl, xHR, K⟩
  have HR := hid xHR
  replace M := M.call K
  clear K xHR
  go_wp2_with fail
  refine (small_any r1 ((32 + 31) / 32) _ HR.out (by decide)).mono ?_
  rintro e w2 ⟨rfl, hw⟩
  replace hw := hw.symm
  subst hw
  go_wp2_with ((with_reducible apply W_loadCell); rfl; exact M.kept.row hr (by simp); exact h9; exact Salg.underlying40; rfl; simp only [Act.put, List.setIfInBounds_toArray, List.set_cons_zero, List.set_cons_succ])
  go_end0
  exact ⟨_, rfl, M.kept⟩
theorem growF {fb q m G U L W : Nat} {fs0 : Array Value} {ns : List Nat} {mp : Option Addr} {mc : Nat} {w : World} (hg : ∀ (fs : Array Value) (r : Value) (w : World), w.heap[fb]? = some (.cells fs 142 (0, 0)) → fs[q + 9]? = some (.slice mp L mc) → NumV w r U → Calls Salg.prog 113 #[.pointer (some ⟨fb, q, none⟩), r] w fun e w' => ∃ r', e = .returned r' ∧ Kept [] w w') (r : Value) (hF : FrameQ w fb q fs0 m G ns (.slice mp L mc)) (hu : NumV w r U) :
    Calls Salg.prog 113 #[.pointer (some ⟨fb, q, none⟩), r] w fun e w' => ∃ r', e = .returned r' ∧ FrameQ w' fb q fs0 m G ns (.slice mp L mc) ∧ Kept [fb] w w' := by
  have hF2 := hF
  obtain ⟨fs, pv, gv, sv, xs, h1, h0, h2, h3, h4, h5, h6, h7, h8, h9, ha⟩ := hF
  refine (hg fs r w h1 ha hu).mono ?_
  rintro e w' ⟨r', rfl, K⟩
  exact ⟨r', rfl, hF2.kept K, K.mono (by simp)⟩
theorem stepS_push10 (w0 : World) (A : World → Prop) (c fb cap : Nat) (fs0 : Array Value) (m G : Nat) (ns : List Nat) (la : List (List Nat)) (mo : Option Nat) (so : Option (Nat × Nat)) (R : Nat) (ds1 ds2 : List Nat) (o i k : Nat) (cv : Value) (ds : List Nat) (mp : Option Addr) (mc : Nat) (w : World) (hk : OpK o 0 1 i k) (h95 : 95 ≤ o) (h127 : o ≤ 127) (hS : StV w0 A c fb 0 1 cap fs0 m G ns (.slice mp 0 mc) la mo so R ds1 ds2 w) (hA : Stable A) (hcv : ∀ w, A w → NatV w cv ds) (hfc : FrC fs0 0 cv) (hm : ds[m]? = some o) (hl : ds.length ≤ 1000) (hns : ns.length ≤ 30) (hm1 : m ≤ 900) (hkG : k ≤ G) (hG : G < 256 ^ 100) :
    Calls Salg.prog 27 #[.pointer (some ⟨c, 0, none⟩)] w fun e w' => e = .returned (.bool true) ∧ StV w0 A c fb 0 1 cap fs0 (m + (1 + i)) (G - k) (ns ++ [be (cutB ds (m + 1) i)]) (.slice mp 0 mc) la mo so R ds1 ds2 w' := by
  obtain ⟨cs, c1, c9, c11, _⟩ := hS.ch.row
  have hne : o ≠ 0 ∧ o ≠ 243 ∧ o ≠ 253 ∧ o ≠ 255 := ⟨by omega, by omega, by omega, by omega⟩
  refine step_plain1 c fb m G k 0 2 0 0 0 o cs fs0 cap ns cv (.slice mp 0 mc) ds (fun w' => FrameQ w' fb 0 fs0 m (G - k) ns (.slice mp 0 mc)) _ (fun _ _ => True) w hne c1 c9 c11 hS.fr (hcv w hS.a) hm hl hfc hkG (Nat.lt_of_lt_of_le hG (by decide)) ?_ ?_ ?_ hk.fam (by decide) ?_
  · intro w' K
    obtain ⟨fs, pv, gv, sv, xs, h1, h0, h2, h3, h4, h5, h6, h7, h8, h9, ha⟩ := hS.fr.kept K
    have hxl := h9.1
    obtain ⟨p, n', k', rfl⟩ := rowV_slice h8
    obtain rfl : n' = xs.length := by
      rcases h8 with ⟨e, e2⟩ | ⟨g, cap, cur, e, _⟩
      · cases e; subst e2; rfl
      · cases e; rfl
    exact refusal_q0 _ fb 0 o 0 1 i k xs.length G fs gv p k' w' hk h1 ((h2 (0 + 2) (by decide) (by decide) (by decide) (by decide)).trans hfc.f2) h5 h7 mp mc ha (by omega) (by omega) h6 hkG
  · intro w' K hF
    refine (hk.re _ w').mono ?_
    rintro e w'' ⟨rfl, rfl⟩
    exact ⟨_, rfl, nil_num _, Kept.refl _ _⟩
  · intro w' r K hF hr
    exact growF (W := 0) (fun fs r w a b c => growk_00 fb 0 fs mp mc r w a b c) r hF hr
  · intro w' K hF
    have hS2 := hS.frame hA K hF
    refine (plain_push_F _ fb 0 m (G - k) o i k fs0 cv _ ds ns w' hk h95 h127 hF hfc (hcv _ hS2.a) hns (by omega) hl).mono ?_
    rintro e w'' ⟨r, rfl, K2, hF2⟩
    exact ⟨r, rfl, hS2.frame hA K2 hF2⟩
theorem stepS_push11 (w0 : World) (A : World → Prop) (c fb cap : Nat) (fs0 : Array Value) (m G : Nat) (ns : List Nat) (la : List (List Nat)) (mo : Option Nat) (so : Option (Nat × Nat)) (R : Nat) (ds1 ds2 : List Nat) (o i k : Nat) (cv : Value) (ds : List Nat) (mp : Option Addr) (mc : Nat) (w : World) (hk : OpK o 0 1 i k) (h95 : 95 ≤ o) (h127 : o ≤ 127) (hS : StV w0 A c fb 0 1 cap fs0 m G ns (.slice mp 32 mc) la mo so R ds1 ds2 w) (hA : Stable A) (hcv : ∀ w, A w → NatV w cv ds) (hfc : FrC fs0 0 cv) (hm : ds[m]? = some o) (hl : ds.length ≤ 1000) (hns : ns.length ≤ 30) (hm1 : m ≤ 900) (hkG : k ≤ G) (hG : G < 256 ^ 100) :
    Calls Salg.prog 27 #[.pointer (some ⟨c, 0, none⟩)] w fun e w' => e = .returned (.bool true) ∧ StV w0 A c fb 0 1 cap fs0 (m + (1 + i)) (G - k) (ns ++ [be (cutB ds (m + 1) i)]) (.slice mp 32 mc) la mo so R ds1 ds2 w' := by
  obtain ⟨cs, c1, c9, c11, _⟩ := hS.ch.row
  have hne : o ≠ 0 ∧ o ≠ 243 ∧ o ≠ 253 ∧ o ≠ 255 := ⟨by omega, by omega, by omega, by omega⟩
  refine step_plain1 c fb m G k 0 2 0 0 0 o cs fs0 cap ns cv (.slice mp 32 mc) ds (fun w' => FrameQ w' fb 0 fs0 m (G - k) ns (.slice mp 32 mc)) _ (fun _ _ => True) w hne c1 c9 c11 hS.fr (hcv w hS.a) hm hl hfc hkG (Nat.lt_of_lt_of_le hG (by decide)) ?_ ?_ ?_ hk.fam (by decide) ?_
  · intro w' K
    obtain ⟨fs, pv, gv, sv, xs, h1, h0, h2, h3, h4, h5, h6, h7, h8, h9, ha⟩ := hS.fr.kept K
    have hxl := h9.1
    obtain ⟨p, n', k', rfl⟩ := rowV_slice h8
    obtain rfl : n' = xs.length := by
      rcases h8 with ⟨e, e2⟩ | ⟨g, cap, cur, e, _⟩
      · cases e; subst e2; rfl
      · cases e; rfl
    exact refusal_q1 _ fb 0 o 0 1 i k xs.length G fs gv p k' w' hk h1 ((h2 (0 + 2) (by decide) (by decide) (by decide) (by decide)).trans hfc.f2) h5 h7 mp mc ha (by omega) (by omega) h6 hkG
  · intro w' K hF
    refine (hk.re _ w').mono ?_
    rintro e w'' ⟨rfl, rfl⟩
    exact ⟨_, rfl, nil_num _, Kept.refl _ _⟩
  · intro w' r K hF hr
    exact growF (W := 0) (fun fs r w a b c => growk_10 fb 0 fs mp mc r w a b c) r hF hr
  · intro w' K hF
    have hS2 := hS.frame hA K hF
    refine (plain_push_F _ fb 0 m (G - k) o i k fs0 cv _ ds ns w' hk h95 h127 hF hfc (hcv _ hS2.a) hns (by omega) hl).mono ?_
    rintro e w'' ⟨r, rfl, K2, hF2⟩
    exact ⟨r, rfl, hS2.frame hA K2 hF2⟩
theorem stepS_push20 (w0 : World) (A : World → Prop) (c fb cap : Nat) (fs0 : Array Value) (m G : Nat) (ns : List Nat) (la : List (List Nat)) (mo : Option Nat) (so : Option (Nat × Nat)) (R : Nat) (ds1 ds2 : List Nat) (o i k : Nat) (cv : Value) (ds : List Nat) (mp : Option Addr) (mc : Nat) (w : World) (hk : OpK o 0 1 i k) (h95 : 95 ≤ o) (h127 : o ≤ 127) (hS : StV w0 A c fb 60 2 cap fs0 m G ns (.slice mp 0 mc) la mo so R ds1 ds2 w) (hA : Stable A) (hcv : ∀ w, A w → NatV w cv ds) (hfc : FrC fs0 60 cv) (hm : ds[m]? = some o) (hl : ds.length ≤ 1000) (hns : ns.length ≤ 30) (hm1 : m ≤ 900) (hkG : k ≤ G) (hG : G < 256 ^ 100) :
    Calls Salg.prog 27 #[.pointer (some ⟨c, 0, none⟩)] w fun e w' => e = .returned (.bool true) ∧ StV w0 A c fb 60 2 cap fs0 (m + (1 + i)) (G - k) (ns ++ [be (cutB ds (m + 1) i)]) (.slice mp 0 mc) la mo so R ds1 ds2 w' := by
  obtain ⟨cs, c1, c9, c11, _⟩ := hS.ch.row
  have hne : o ≠ 0 ∧ o ≠ 243 ∧ o ≠ 253 ∧ o ≠ 255 := ⟨by omega, by omega, by omega, by omega⟩
  refine step_plain2 c fb m G k 0 2 0 0 0 o cs fs0 cap ns cv (.slice mp 0 mc) ds (fun w' => FrameQ w' fb 60 fs0 m (G - k) ns (.slice mp 0 mc)) _ (fun _ _ => True) w hne c1 c9 c11 hS.fr (hcv w hS.a) hm hl hfc hkG (Nat.lt_of_lt_of_le hG (by decide)) ?_ ?_ ?_ hk.fam (by decide) ?_
  · intro w' K
    obtain ⟨fs, pv, gv, sv, xs, h1, h0, h2, h3, h4, h5, h6, h7, h8, h9, ha⟩ := hS.fr.kept K
    have hxl := h9.1
    obtain ⟨p, n', k', rfl⟩ := rowV_slice h8
    obtain rfl : n' = xs.length := by
      rcases h8 with ⟨e, e2⟩ | ⟨g, cap, cur, e, _⟩
      · cases e; subst e2; rfl
      · cases e; rfl
    exact refusal_q0 _ fb 60 o 0 1 i k xs.length G fs gv p k' w' hk h1 ((h2 (60 + 2) (by decide) (by decide) (by decide) (by decide)).trans hfc.f2) h5 h7 mp mc ha (by omega) (by omega) h6 hkG
  · intro w' K hF
    refine (hk.re _ w').mono ?_
    rintro e w'' ⟨rfl, rfl⟩
    exact ⟨_, rfl, nil_num _, Kept.refl _ _⟩
  · intro w' r K hF hr
    exact growF (W := 0) (fun fs r w a b c => growk_00 fb 60 fs mp mc r w a b c) r hF hr
  · intro w' K hF
    have hS2 := hS.frame hA K hF
    refine (plain_push_F _ fb 60 m (G - k) o i k fs0 cv _ ds ns w' hk h95 h127 hF hfc (hcv _ hS2.a) hns (by omega) hl).mono ?_
    rintro e w'' ⟨r, rfl, K2, hF2⟩
    exact ⟨r, rfl, hS2.frame hA K2 hF2⟩
theorem stepS_sstore1 (w0 : World) (A : World → Prop) (c fb cap : Nat) (fs0 : Array Value) (m G : Nat) (ns : List Nat) (la : List (List Nat)) (mo : Option Nat) (so : Option (Nat × Nat)) (R : Nat) (ds1 ds2 : List Nat) (K N : Nat) (cv : Value) (ds : List Nat) (mp : Option Addr) (mc : Nat) (w : World) (hS : StV w0 A c fb 0 1 cap fs0 m G (ns ++ [N, K]) (.slice mp 0 mc) la mo so R ds1 ds2 w) (hA : Stable A) (hcv : ∀ w, A w → NatV w cv ds) (hfc : FrC fs0 0 cv) (hm : ds[m]? = some 85) (hl : ds.length ≤ 1000) (hns : ns.length ≤ 20) (hm1 : m ≤ 900) (hK : KeyOk K mo so) (hkG : sCost mo.isSome (slotVal so) N ≤ G) (hG2 : 2300 < G) (hG : G < 256 ^ 100) (hR : R < 256 ^ 100) :
    Calls Salg.prog 27 #[.pointer (some ⟨c, 0, none⟩)] w fun e w' => e = .returned (.bool true) ∧ StV w0 A c fb 0 1 cap fs0 (m + 1) (G - sCost mo.isSome (slotVal so) N) ns (.slice mp 0 mc) la (some K) (slotNew K N) (R + sPlus (slotVal so) N) ds1 ds2 w' := by
  obtain ⟨cs, c1, c9, c11, _⟩ := hS.ch.row
  have hcost : sCost mo.isSome (slotVal so) N < 256 ^ 100 := Nat.lt_of_le_of_lt hkG hG
  refine step_plain1 c fb m G (sCost mo.isSome (slotVal so) N) 0 8 0 0 0 85 cs fs0 cap _ cv (.slice mp 0 mc) ds (fun w' => FrameQ w' fb 0 fs0 m (G - sCost mo.isSome (slotVal so) N) (ns ++ [N, K]) (.slice mp 0 mc)) _ (fun _ _ => True) w (by decide) c1 c9 c11 hS.fr (hcv w hS.a) hm hl hfc hkG (Nat.lt_of_lt_of_le hG (by decide)) ?_ ?_ ?_ family_sstore (by decide) ?_
  · intro w' K1
    have hF := hS.fr.kept K1
    refine refusal_sstore _ fb 0 m G _ fs0 cv _ _ w' hF hfc (by simp) (by simp; omega) hkG hG2 fun w1 K2 => ?_
    have hF1 := hF.kept K2
    obtain ⟨fs, pv, gv, sv, xs, h1, h0, h2, h3, h4, h5, h6, h7, h8, h9, ha⟩ := hF1
    have hC1 := (hS.ch.kept K1).kept K2
    refine cost_00 _ fb 0 85 _ fs mp mc w1 h1 ha hcost (fun w2 K3 => ?_) (fun w2 K3 => ?_)
    · exact bareCost_sstore _ _ _ _ w2 (sstore_C c fb 0 K N m G fs0 cv _ _ ns la mo so R ds1 ds2 w2 (hC1.kept K3) ((hF.kept K2).kept K3) hfc (by omega) hK)
    · refine (reach_sstore _ w2).mono ?_
      rintro e w3 ⟨rfl, rfl⟩
      exact ⟨_, rfl, nil_num _, Kept.refl _ _⟩
  · intro w' K1 hF
    refine (reach_sstore _ w').mono ?_
    rintro e w'' ⟨rfl, rfl⟩
    exact ⟨_, rfl, nil_num _, Kept.refl _ _⟩
  · intro w' r K1 hF hr
    exact growF (W := 0) (fun fs r w a b c => growk_00 fb 0 fs mp mc r w a b c) r hF hr
  · intro w' K1 hF
    have hS2 := hS.frame hA K1 hF
    obtain ⟨cs2, d1, d9, d11, dn⟩ := hS2.ch.row
    refine (plain_sstore _ fb 0 m _ K N 0 fs0 _ ns w' hF (by omega) (by omega) _ (fun w'' => ChainV w'' c (.slice (some ⟨fb, 0, none⟩) 1 cap) la (some K) (slotNew K N) (R + sPlus (slotVal so) N) ds1 ds2) c d1 (light_chain dn) fun w1 a b ab args K2 e1 e2 e3 e4 e5 => ?_).mono ?_
    · refine effect_sstore _ _ a b ab args _ [c] w1 e1 e2 e3 ?_
      exact stores_C c fb 0 K N m _ fs0 cv _ _ ns la mo so R ds1 ds2 a b w1 (hS2.ch.kept K2) (hF.kept K2) hfc (by omega) hK e4 e5 hR
    · rintro e w'' ⟨r, w1, rfl, p1, p2, p3, p4, p5⟩
      have hA1 : A w1 := hA.keptC _ _ _ _ _ hS2.a p2 d1 dn (.inl rfl)
      have hS3 : StV w0 A c fb 0 1 cap fs0 m (G - sCost mo.isSome (slotVal so) N) (ns ++ [N, K]) (.slice mp 0 mc) la (some K) (slotNew K N) (R + sPlus (slotVal so) N) ds1 ds2 w1 := ⟨hS2.k.trans p2, hS2.b, p1, p3, hA1⟩
      exact ⟨r, rfl, hS3.frame hA p4 p5⟩
theorem stepS_sstore2 (w0 : World) (A : World → Prop) (c fb cap : Nat) (fs0 : Array Value) (m G : Nat) (ns : List Nat) (la : List (List Nat)) (mo : Option Nat) (so : Option (Nat × Nat)) (R : Nat) (ds1 ds2 : List Nat) (K N : Nat) (cv : Value) (ds : List Nat) (mp : Option Addr) (mc : Nat) (w : World) (hS : StV w0 A c fb 60 2 cap fs0 m G (ns ++ [N, K]) (.slice mp 0 mc) la mo so R ds1 ds2 w) (hA : Stable A) (hcv : ∀ w, A w → NatV w cv ds) (hfc : FrC fs0 60 cv) (hm : ds[m]? = some 85) (hl : ds.length ≤ 1000) (hns : ns.length ≤ 20) (hm1 : m ≤ 900) (hK : KeyOk K mo so) (hkG : sCost mo.isSome (slotVal so) N ≤ G) (hG2 : 2300 < G) (hG : G < 256 ^ 100) (hR : R < 256 ^ 100) :
    Calls Salg.prog 27 #[.pointer (some ⟨c, 0, none⟩)] w fun e w' => e = .returned (.bool true) ∧ StV w0 A c fb 60 2 cap fs0 (m + 1) (G - sCost mo.isSome (slotVal so) N) ns (.slice mp 0 mc) la (some K) (slotNew K N) (R + sPlus (slotVal so) N) ds1 ds2 w' := by
  obtain ⟨cs, c1, c9, c11, _⟩ := hS.ch.row
  have hcost : sCost mo.isSome (slotVal so) N < 256 ^ 100 := Nat.lt_of_le_of_lt hkG hG
  refine step_plain2 c fb m G (sCost mo.isSome (slotVal so) N) 0 8 0 0 0 85 cs fs0 cap _ cv (.slice mp 0 mc) ds (fun w' => FrameQ w' fb 60 fs0 m (G - sCost mo.isSome (slotVal so) N) (ns ++ [N, K]) (.slice mp 0 mc)) _ (fun _ _ => True) w (by decide) c1 c9 c11 hS.fr (hcv w hS.a) hm hl hfc hkG (Nat.lt_of_lt_of_le hG (by decide)) ?_ ?_ ?_ family_sstore (by decide) ?_
  · intro w' K1
    have hF := hS.fr.kept K1
    refine refusal_sstore _ fb 60 m G _ fs0 cv _ _ w' hF hfc (by simp) (by simp; omega) hkG hG2 fun w1 K2 => ?_
    have hF1 := hF.kept K2
    obtain ⟨fs, pv, gv, sv, xs, h1, h0, h2, h3, h4, h5, h6, h7, h8, h9, ha⟩ := hF1
    have hC1 := (hS.ch.kept K1).kept K2
    refine cost_00 _ fb 60 85 _ fs mp mc w1 h1 ha hcost (fun w2 K3 => ?_) (fun w2 K3 => ?_)
    · exact bareCost_sstore _ _ _ _ w2 (sstore_C c fb 60 K N m G fs0 cv _ _ ns la mo so R ds1 ds2 w2 (hC1.kept K3) ((hF.kept K2).kept K3) hfc (by omega) hK)
    · refine (reach_sstore _ w2).mono ?_
      rintro e w3 ⟨rfl, rfl⟩
      exact ⟨_, rfl, nil_num _, Kept.refl _ _⟩
  · intro w' K1 hF
    refine (reach_sstore _ w').mono ?_
    rintro e w'' ⟨rfl, rfl⟩
    exact ⟨_, rfl, nil_num _, Kept.refl _ _⟩
  · intro w' r K1 hF hr
    exact growF (W := 0) (fun fs r w a b c => growk_00 fb 60 fs mp mc r w a b c) r hF hr
  · intro w' K1 hF
    have hS2 := hS.frame hA K1 hF
    obtain ⟨cs2, d1, d9, d11, dn⟩ := hS2.ch.row
    refine (plain_sstore _ fb 60 m _ K N 0 fs0 _ ns w' hF (by omega) (by omega) _ (fun w'' => ChainV w'' c (.slice (some ⟨fb, 0, none⟩) 2 cap) la (some K) (slotNew K N) (R + sPlus (slotVal so) N) ds1 ds2) c d1 (light_chain dn) fun w1 a b ab args K2 e1 e2 e3 e4 e5 => ?_).mono ?_
    · refine effect_sstore _ _ a b ab args _ [c] w1 e1 e2 e3 ?_
      exact stores_C c fb 60 K N m _ fs0 cv _ _ ns la mo so R ds1 ds2 a b w1 (hS2.ch.kept K2) (hF.kept K2) hfc (by omega) hK e4 e5 hR
    · rintro e w'' ⟨r, w1, rfl, p1, p2, p3, p4, p5⟩
      have hA1 : A w1 := hA.keptC _ _ _ _ _ hS2.a p2 d1 dn (.inl rfl)
      have hS3 : StV w0 A c fb 60 2 cap fs0 m (G - sCost mo.isSome (slotVal so) N) (ns ++ [N, K]) (.slice mp 0 mc) la (some K) (slotNew K N) (R + sPlus (slotVal so) N) ds1 ds2 w1 := ⟨hS2.k.trans p2, hS2.b, p1, p3, hA1⟩
      exact ⟨r, rfl, hS3.frame hA p4 p5⟩
theorem stepS_sload (w0 : World) (A : World → Prop) (c fb cap : Nat) (fs0 : Array Value) (m G : Nat) (ns : List Nat) (la : List (List Nat)) (mo : Option Nat) (so : Option (Nat × Nat)) (R : Nat) (ds1 ds2 : List Nat) (K : Nat) (cv : Value) (ds : List Nat) (mp : Option Addr) (mc : Nat) (w : World) (hS : StV w0 A c fb 0 1 cap fs0 m G (ns ++ [K]) (.slice mp 0 mc) la (some K) so R ds1 ds2 w) (hA : Stable A) (hcv : ∀ w, A w → NatV w cv ds) (hfc : FrC fs0 0 cv) (hm : ds[m]? = some 84) (hl : ds.length ≤ 1000) (hns : ns.length ≤ 20) (hm1 : m ≤ 900) (hK : KeyOk K (some K) so) (hkG : 100 ≤ G) (hG : G < 256 ^ 100) :
    Calls Salg.prog 27 #[.pointer (some ⟨c, 0, none⟩)] w fun e w' => e = .returned (.bool true) ∧ StV w0 A c fb 0 1 cap fs0 (m + 1) (G - 100) (ns ++ [slotVal so]) (.slice mp 0 mc) la (some K) so R ds1 ds2 w' := by
  obtain ⟨cs, c1, c9, c11, _⟩ := hS.ch.row
  refine step_plain1 c fb m G 100 0 8 0 0 0 84 cs fs0 cap _ cv (.slice mp 0 mc) ds (fun w' => FrameQ w' fb 0 fs0 m (G - 100) (ns ++ [K]) (.slice mp 0 mc)) _ (fun _ _ => True) w (by decide) c1 c9 c11 hS.fr (hcv w hS.a) hm hl hfc hkG (Nat.lt_of_lt_of_le hG (by decide)) ?_ ?_ ?_ family_sload (by decide) ?_
  · intro w' K1
    have hF := hS.fr.kept K1
    refine refusal_sload _ fb 0 m G _ fs0 cv _ _ w' hF hfc (by simp) (by simp; omega) hkG fun w1 K2 => ?_
    have hF1 := hF.kept K2
    obtain ⟨fs, pv, gv, sv, xs, h1, h0, h2, h3, h4, h5, h6, h7, h8, h9, ha⟩ := hF1
    have hC1 := (hS.ch.kept K1).kept K2
    refine cost_00 _ fb 0 84 100 fs mp mc w1 h1 ha (by decide) (fun w2 K3 => ?_) (fun w2 K3 => ?_)
    · exact bareCost_sload c fb 0 K m G fs0 cv _ _ ns la so R ds1 ds2 w2 (hC1.kept K3) ((hF.kept K2).kept K3) hfc (by omega)
    · refine (reach_sload _ w2).mono ?_
      rintro e w3 ⟨rfl, rfl⟩
      exact ⟨_, rfl, nil_num _, Kept.refl _ _⟩
  · intro w' K1 hF
    refine (reach_sload _ w').mono ?_
    rintro e w'' ⟨rfl, rfl⟩
    exact ⟨_, rfl, nil_num _, Kept.refl _ _⟩
  · intro w' r K1 hF hr
    exact growF (W := 0) (fun fs r w a b c => growk_00 fb 0 fs mp mc r w a b c) r hF hr
  · intro w' K1 hF
    have hS2 := hS.frame hA K1 hF
    refine (plain_sload _ fb 0 m _ K 0 (slotVal so) fs0 _ ns w' hF (by omega) (by omega) fun w1 a ab args K2 e1 e2 e4 => ?_).mono ?_
    · exact value_sload c fb 0 K 0 m _ fs0 cv _ _ (ns ++ [K]) la none so R ds1 ds2 ab args a w1 (hS2.ch.kept K2) (hF.kept K2) hfc hK e4 e1 e2
    · rintro e w'' ⟨r, rfl, p1, p2⟩
      exact ⟨r, rfl, hS2.frame hA p1 p2⟩
end Go.Proofs.YgcsalGreat

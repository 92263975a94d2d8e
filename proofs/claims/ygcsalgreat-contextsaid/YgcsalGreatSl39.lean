/-
  The four runs of StoreLoad's programs.
-/
import Derived.Test.YgcsalGreatSl38
set_option linter.unusedSimpArgs false
set_option linter.unusedVariables false
namespace Go.Own
/-- The state between two steps, its gas and its refund within bounds. -/
def StB (lo hi hR : Nat) (w0 : World) (A : World → Prop) (c fb q n cap : Nat) (fs0 : Array Value) (m : Nat) (ns : List Nat) (mv : Value) (la : List (List Nat)) (mo : Option Nat) (so : Option (Nat × Nat)) (ds1 ds2 : List Nat) (w : World) : Prop := ∃ G R, lo ≤ G ∧ G ≤ hi ∧ R ≤ hR ∧ StV w0 A c fb q n cap fs0 m G ns mv la mo so R ds1 ds2 w
theorem sCost_le (b : Bool) (V N : Nat) : sCost b V N ≤ 22100 := by
  unfold sCost
  repeat' split
  all_goals omega
theorem sPlus_le (V N : Nat) : sPlus V N ≤ 19900 := by
  unfold sPlus
  repeat' split
  all_goals omega
theorem slotVal_new (K N : Nat) : slotVal (slotNew K N) = N := by
  unfold slotNew
  split
  · rename_i h; rw [h]; rfl
  · rfl
theorem slotNew_ok (K N : Nat) : slotNew K N = none ∨ ∃ V, slotNew K N = some (K, V) := by
  unfold slotNew
  split
  · exact .inl rfl
  · exact .inr ⟨N, rfl⟩
theorem OutF.caller {fs0 : Array Value} {g0 vv cv r7 a0 a1 a2 a3 : Value} (h : OutF fs0 g0 vv cv r7 a0 a1 a2 a3) : fs0.extract 32 (32 + 20) = ((ad 240).map n8).toArray := by
  have hz := h.sz
  apply Array.ext (by simp [ad]; omega)
  intro i h1 h2
  simp only [Array.getElem_extract]
  simp only [Array.size_extract] at h1
  have e := h.cur (32 + i) (by omega) (by omega) (by omega) (by omega) (by omega)
  rw [Array.getElem?_eq_getElem (by omega)] at e
  have hi : i < 20 := by omega
  refine Option.some.inj (e.trans ?_)
  rw [List.getElem?_set_ne (by omega)]
  simp only [List.size_toArray, List.length_map] at h2
  rw [List.getElem_toArray, ← List.getElem?_eq_getElem (by simpa using h2)]
  rw [frL, List.getElem?_append_right (by simp; omega), List.getElem?_append_right (by simp [ad]; omega), List.getElem?_append_left (by simp [ad]; omega)]
  congr 1
  simp [ad]
  omega
end Go.Own
namespace Go.Proofs.YgcsalGreat
open Go.RowKit Go.Own
theorem outF_back {fs0 cur fs1 : Array Value} {cap : Nat} {g0 vv cv a0 a1 a2 a3 pv gv sv r7 mv sg cw b0 b1 b2 b3 : Value} (h : OutF fs0 g0 vv cv nilS a0 a1 a2 a3) (t : TwoF cur fs0 cap pv gv sv r7 mv sg vv cw b0 b1 b2 b3) (e : ∀ k, k < 60 → fs1[k]? = cur[k]?) (hs : fs1.size = cur.size) (h7 : r7.oneCell' = true) : OutF fs1 g0 vv cv r7 a0 a1 a2 a3 := by
  refine ⟨fun k k1 k3 k4 k8 k9 => ?_, by rw [hs, t.sz]; have := t.two; omega, fun u hu => ?_⟩
  · rw [e k k1]
    by_cases k7 : k = 7
    · subst k7
      rw [t.c7, List.getElem?_set_self (by show 7 < _; exact Nat.le_of_ble_eq_true (by kernel_rfl))]
    by_cases k6 : k = 6
    · subst k6
      rw [t.c6, List.getElem?_set_ne (by decide)]
      rfl
    rw [t.o k k1 k3 k4 k6 k7 k8 k9, h.cur k k1 k3 k4 k8 k9, List.getElem?_set_ne (by omega), List.getElem?_set_ne (by omega)]
  · rcases List.mem_or_eq_of_mem_set hu with hu | rfl
    · exact h.one u (by rw [show (frL g0 vv cv nilS (wrow4 a0 a1 a2 a3)).set 7 nilS = frL g0 vv cv nilS (wrow4 a0 a1 a2 a3) from by kernel_rfl]; exact hu)
    · exact h7
theorem gas_lt {G hi : Nat} (h : G ≤ hi) (h2 : hi ≤ 1000000) : G < 256 ^ 100 := Nat.lt_of_le_of_lt (Nat.le_trans h h2) (by decide)
theorem stepB_push10 {lo hi hR : Nat} {w0 : World} {A : World → Prop} {c fb cap : Nat} {fs0 : Array Value} {m : Nat} {ns : List Nat} {la : List (List Nat)} {mo : Option Nat} {so : Option (Nat × Nat)} {ds1 ds2 : List Nat} (o i k v m' : Nat) {cv : Value} {ds : List Nat} {mp : Option Addr} {mc : Nat} {w : World} (hB : StB lo hi hR w0 A c fb 0 1 cap fs0 m ns (.slice mp 0 mc) la mo so ds1 ds2 w) (hA : Stable A) (hcv : ∀ w, A w → NatV w cv ds) (hfc : FrC fs0 0 cv) (hk : OpK o 0 1 i k) (h95 : 95 ≤ o) (h127 : o ≤ 127) (hm : ds[m]? = some o) (hv : be (cutB ds (m + 1) i) = v) (hm' : m + (1 + i) = m') (hl : ds.length ≤ 1000) (hns : ns.length ≤ 30) (hm1 : m ≤ 900) (hkG : k ≤ lo) (hhi : hi ≤ 1000000) :
    Calls Salg.prog 27 #[.pointer (some ⟨c, 0, none⟩)] w fun e w' => e = .returned (.bool true) ∧ StB (lo - k) hi hR w0 A c fb 0 1 cap fs0 m' (ns ++ [v]) (.slice mp 0 mc) la mo so ds1 ds2 w' := by
  obtain ⟨G, R, g1, g2, g3, hS⟩ := hB
  refine (stepS_push10 w0 A c fb cap fs0 m G ns la mo so R ds1 ds2 o i k cv ds mp mc w hk h95 h127 hS hA hcv hfc hm hl hns hm1 (by omega) (gas_lt g2 hhi)).mono ?_
  rintro e w' ⟨rfl, h⟩
  rw [hv, hm'] at h
  exact ⟨rfl, _, _, by omega, by omega, g3, h⟩
theorem stepB_push11 {lo hi hR : Nat} {w0 : World} {A : World → Prop} {c fb cap : Nat} {fs0 : Array Value} {m : Nat} {ns : List Nat} {la : List (List Nat)} {mo : Option Nat} {so : Option (Nat × Nat)} {ds1 ds2 : List Nat} (o i k v m' : Nat) {cv : Value} {ds : List Nat} {mp : Option Addr} {mc : Nat} {w : World} (hB : StB lo hi hR w0 A c fb 0 1 cap fs0 m ns (.slice mp 32 mc) la mo so ds1 ds2 w) (hA : Stable A) (hcv : ∀ w, A w → NatV w cv ds) (hfc : FrC fs0 0 cv) (hk : OpK o 0 1 i k) (h95 : 95 ≤ o) (h127 : o ≤ 127) (hm : ds[m]? = some o) (hv : be (cutB ds (m + 1) i) = v) (hm' : m + (1 + i) = m') (hl : ds.length ≤ 1000) (hns : ns.length ≤ 30) (hm1 : m ≤ 900) (hkG : k ≤ lo) (hhi : hi ≤ 1000000) :
    Calls Salg.prog 27 #[.pointer (some ⟨c, 0, none⟩)] w fun e w' => e = .returned (.bool true) ∧ StB (lo - k) hi hR w0 A c fb 0 1 cap fs0 m' (ns ++ [v]) (.slice mp 32 mc) la mo so ds1 ds2 w' := by
  obtain ⟨G, R, g1, g2, g3, hS⟩ := hB
  refine (stepS_push11 w0 A c fb cap fs0 m G ns la mo so R ds1 ds2 o i k cv ds mp mc w hk h95 h127 hS hA hcv hfc hm hl hns hm1 (by omega) (gas_lt g2 hhi)).mono ?_
  rintro e w' ⟨rfl, h⟩
  rw [hv, hm'] at h
  exact ⟨rfl, _, _, by omega, by omega, g3, h⟩
theorem stepB_push20 {lo hi hR : Nat} {w0 : World} {A : World → Prop} {c fb cap : Nat} {fs0 : Array Value} {m : Nat} {ns : List Nat} {la : List (List Nat)} {mo : Option Nat} {so : Option (Nat × Nat)} {ds1 ds2 : List Nat} (o i k v m' : Nat) {cv : Value} {ds : List Nat} {mp : Option Addr} {mc : Nat} {w : World} (hB : StB lo hi hR w0 A c fb 60 2 cap fs0 m ns (.slice mp 0 mc) la mo so ds1 ds2 w) (hA : Stable A) (hcv : ∀ w, A w → NatV w cv ds) (hfc : FrC fs0 60 cv) (hk : OpK o 0 1 i k) (h95 : 95 ≤ o) (h127 : o ≤ 127) (hm : ds[m]? = some o) (hv : be (cutB ds (m + 1) i) = v) (hm' : m + (1 + i) = m') (hl : ds.length ≤ 1000) (hns : ns.length ≤ 30) (hm1 : m ≤ 900) (hkG : k ≤ lo) (hhi : hi ≤ 1000000) :
    Calls Salg.prog 27 #[.pointer (some ⟨c, 0, none⟩)] w fun e w' => e = .returned (.bool true) ∧ StB (lo - k) hi hR w0 A c fb 60 2 cap fs0 m' (ns ++ [v]) (.slice mp 0 mc) la mo so ds1 ds2 w' := by
  obtain ⟨G, R, g1, g2, g3, hS⟩ := hB
  refine (stepS_push20 w0 A c fb cap fs0 m G ns la mo so R ds1 ds2 o i k cv ds mp mc w hk h95 h127 hS hA hcv hfc hm hl hns hm1 (by omega) (gas_lt g2 hhi)).mono ?_
  rintro e w' ⟨rfl, h⟩
  rw [hv, hm'] at h
  exact ⟨rfl, _, _, by omega, by omega, g3, h⟩
theorem stepB_sstore1 {lo hi hR : Nat} {w0 : World} {A : World → Prop} {c fb cap : Nat} {fs0 : Array Value} {m : Nat} (ns : List Nat) {la : List (List Nat)} {mo : Option Nat} {so : Option (Nat × Nat)} {ds1 ds2 : List Nat} (K N : Nat) {cv : Value} {ds : List Nat} {mp : Option Addr} {mc : Nat} {w : World} (hB : StB lo hi hR w0 A c fb 0 1 cap fs0 m (ns ++ [N, K]) (.slice mp 0 mc) la mo so ds1 ds2 w) (hA : Stable A) (hcv : ∀ w, A w → NatV w cv ds) (hfc : FrC fs0 0 cv) (hm : ds[m]? = some 85) (hl : ds.length ≤ 1000) (hns : ns.length ≤ 20) (hm1 : m ≤ 900) (hK : KeyOk K mo so) (hkG : 22100 ≤ lo) (hhi : hi ≤ 1000000) (hhR : hR ≤ 1000000) :
    Calls Salg.prog 27 #[.pointer (some ⟨c, 0, none⟩)] w fun e w' => e = .returned (.bool true) ∧ StB (lo - 22100) hi (hR + 19900) w0 A c fb 0 1 cap fs0 (m + 1) ns (.slice mp 0 mc) la (some K) (slotNew K N) ds1 ds2 w' := by
  obtain ⟨G, R, g1, g2, g3, hS⟩ := hB
  have hc := sCost_le mo.isSome (slotVal so) N
  have hp := sPlus_le (slotVal so) N
  refine (stepS_sstore1 w0 A c fb cap fs0 m G ns la mo so R ds1 ds2 K N cv ds mp mc w hS hA hcv hfc hm hl hns hm1 hK (by omega) (by omega) (gas_lt g2 hhi) (gas_lt g3 hhR)).mono ?_
  rintro e w' ⟨rfl, h⟩
  exact ⟨rfl, _, _, by omega, by omega, by omega, h⟩
theorem stepB_sstore2 {lo hi hR : Nat} {w0 : World} {A : World → Prop} {c fb cap : Nat} {fs0 : Array Value} {m : Nat} (ns : List Nat) {la : List (List Nat)} {mo : Option Nat} {so : Option (Nat × Nat)} {ds1 ds2 : List Nat} (K N : Nat) {cv : Value} {ds : List Nat} {mp : Option Addr} {mc : Nat} {w : World} (hB : StB lo hi hR w0 A c fb 60 2 cap fs0 m (ns ++ [N, K]) (.slice mp 0 mc) la mo so ds1 ds2 w) (hA : Stable A) (hcv : ∀ w, A w → NatV w cv ds) (hfc : FrC fs0 60 cv) (hm : ds[m]? = some 85) (hl : ds.length ≤ 1000) (hns : ns.length ≤ 20) (hm1 : m ≤ 900) (hK : KeyOk K mo so) (hkG : 22100 ≤ lo) (hhi : hi ≤ 1000000) (hhR : hR ≤ 1000000) :
    Calls Salg.prog 27 #[.pointer (some ⟨c, 0, none⟩)] w fun e w' => e = .returned (.bool true) ∧ StB (lo - 22100) hi (hR + 19900) w0 A c fb 60 2 cap fs0 (m + 1) ns (.slice mp 0 mc) la (some K) (slotNew K N) ds1 ds2 w' := by
  obtain ⟨G, R, g1, g2, g3, hS⟩ := hB
  have hc := sCost_le mo.isSome (slotVal so) N
  have hp := sPlus_le (slotVal so) N
  refine (stepS_sstore2 w0 A c fb cap fs0 m G ns la mo so R ds1 ds2 K N cv ds mp mc w hS hA hcv hfc hm hl hns hm1 hK (by omega) (by omega) (gas_lt g2 hhi) (gas_lt g3 hhR)).mono ?_
  rintro e w' ⟨rfl, h⟩
  exact ⟨rfl, _, _, by omega, by omega, by omega, h⟩
theorem stepB_sload {lo hi hR : Nat} {w0 : World} {A : World → Prop} {c fb cap : Nat} {fs0 : Array Value} {m : Nat} (ns : List Nat) {la : List (List Nat)} {so : Option (Nat × Nat)} {ds1 ds2 : List Nat} (K v : Nat) {cv : Value} {ds : List Nat} {mp : Option Addr} {mc : Nat} {w : World} (hB : StB lo hi hR w0 A c fb 0 1 cap fs0 m (ns ++ [K]) (.slice mp 0 mc) la (some K) so ds1 ds2 w) (hA : Stable A) (hcv : ∀ w, A w → NatV w cv ds) (hfc : FrC fs0 0 cv) (hm : ds[m]? = some 84) (hl : ds.length ≤ 1000) (hns : ns.length ≤ 20) (hm1 : m ≤ 900) (hK : KeyOk K (some K) so) (hv : slotVal so = v) (hkG : 100 ≤ lo) (hhi : hi ≤ 1000000) :
    Calls Salg.prog 27 #[.pointer (some ⟨c, 0, none⟩)] w fun e w' => e = .returned (.bool true) ∧ StB (lo - 100) hi hR w0 A c fb 0 1 cap fs0 (m + 1) (ns ++ [v]) (.slice mp 0 mc) la (some K) so ds1 ds2 w' := by
  obtain ⟨G, R, g1, g2, g3, hS⟩ := hB
  refine (stepS_sload w0 A c fb cap fs0 m G ns la none so R ds1 ds2 K cv ds mp mc w hS hA hcv hfc hm hl hns hm1 hK (by omega) (gas_lt g2 hhi)).mono ?_
  rintro e w' ⟨rfl, h⟩
  rw [hv] at h
  exact ⟨rfl, _, _, by omega, by omega, g3, h⟩
theorem stepB_mstore {lo hi hR : Nat} {w0 : World} {A : World → Prop} {c fb cap : Nat} {fs0 : Array Value} {m : Nat} (ns : List Nat) {la : List (List Nat)} {mo : Option Nat} {so : Option (Nat × Nat)} {ds1 ds2 : List Nat} (bs : List Nat) {cv : Value} {ds : List Nat} {w : World} (hB : StB lo hi hR w0 A c fb 0 1 cap fs0 m (ns ++ [be bs, 0]) nilS la mo so ds1 ds2 w) (hA : Stable A) (hcv : ∀ w, A w → NatV w cv ds) (hfc : FrC fs0 0 cv) (hm : ds[m]? = some 82) (hl : ds.length ≤ 1000) (hns : ns.length ≤ 20) (hm1 : m ≤ 900) (hb : bs.length = 32) (hs : Small bs) (hkG : 6 ≤ lo) (hhi : hi ≤ 1000000) :
    Calls Salg.prog 27 #[.pointer (some ⟨c, 0, none⟩)] w fun e w' => e = .returned (.bool true) ∧ ∃ mb, StB (lo - 6) hi hR w0 (fun w => A w ∧ w.heap[mb]? = some (R8 5 bs)) c fb 0 1 cap fs0 (m + 1) ns (.slice (some ⟨mb, 0, none⟩) 32 32) la mo so ds1 ds2 w' := by
  obtain ⟨G, R, g1, g2, g3, hS⟩ := hB
  refine (stepS_mstore w0 A c fb cap fs0 m G ns la mo so R ds1 ds2 bs cv ds w hS hA hcv hfc hm hl hns hm1 hb hs (by omega) (gas_lt g2 hhi)).mono ?_
  rintro e w' ⟨rfl, mb, h⟩
  exact ⟨rfl, mb, _, _, by omega, by omega, g3, h⟩
/-- The code from the last PUSH32 on. -/
structure TailC (ds k : List Nat) (m : Nat) : Prop where
  d0 : ds[m]? = some 127
  c0 : cutB ds (m + 1) 32 = k
  d1 : ds[m + 33]? = some 84
  d2 : ds[m + 34]? = some 95
  d3 : ds[m + 35]? = some 82
  d4 : ds[m + 36]? = some 96
  c4 : cutB ds (m + 37) 1 = [32]
  d5 : ds[m + 38]? = some 95
  d6 : ds[m + 39]? = some 243
theorem tail_run {lo hi hR : Nat} {w0 : World} {c fb cap : Nat} {fs0 : Array Value} {m : Nat} {ns : List Nat} {la : List (List Nat)} {so : Option (Nat × Nat)} {ds1 ds2 : List Nat} {cv g0 vv r7 a0 a1 a2 a3 : Value} {w : World} (k bs : List Nat) (hB : StB lo hi hR w0 (fun w => NatV w cv ds1) c fb 0 1 cap fs0 m ns nilS la (some (be k)) so ds1 ds2 w) (hO : OutF fs0 g0 vv cv r7 a0 a1 a2 a3) (hcap : 1 ≤ cap) (hT : TailC ds1 k m) (hb : bs.length = 32) (hs : Small bs) (hv : slotVal so = be bs) (hK : so = none ∨ ∃ V, so = some (be k, V)) (hl : ds1.length ≤ 1000) (hns : ns.length ≤ 5) (hm1 : m ≤ 800) (hlo : 500 ≤ lo) (hhi : hi ≤ 200000) :
    Play c (fun w2 => EndX w2 c bs so ds1 ds2 ∧ Kept [c] w0 w2) 7 w := by
  have hfc := hO.frC
  have hA := stable_nat cv ds1
  refine Play.step (stepB_push10 127 32 3 (be k) (m + 33) hB hA (fun _ h => h) hfc (opk_push 127 (by decide) (by decide)) (by decide) (by decide) hT.d0 (by rw [hT.c0]) (by omega) hl (by omega) (by omega) (by omega) (by omega)) fun w1 h1 => ?_
  refine Play.step (stepB_sload ns (be k) (be bs) h1 hA (fun _ h => h) hfc hT.d1 hl (by omega) (by omega) ⟨.inr rfl, hK⟩ hv (by omega) (by omega)) fun w2 h2 => ?_
  refine Play.step (stepB_push10 95 0 2 0 (m + 35) h2 hA (fun _ h => h) hfc opk_push0 (by decide) (by decide) hT.d2 (by simp [cutB, be]) (by omega) hl (by simp; omega) (by omega) (by omega) (by omega)) fun w3 h3 => ?_
  rw [List.append_assoc] at h3
  refine Play.step (stepB_mstore ns bs h3 hA (fun _ h => h) hfc hT.d3 hl (by omega) (by omega) hb hs (by omega) (by omega)) fun w4 h4 => ?_
  obtain ⟨mb, h4⟩ := h4
  have hA2 := hA.and (stable_row mb 5 bs)
  refine Play.step (stepB_push11 96 1 3 32 (m + 38) h4 hA2 (fun _ h => h.1) hfc (opk_push 96 (by decide) (by decide)) (by decide) (by decide) hT.d4 (by rw [hT.c4]; rfl) (by omega) hl (by omega) (by omega) (by omega) (by omega)) fun w5 h5 => ?_
  refine Play.step (stepB_push11 95 0 2 0 (m + 39) h5 hA2 (fun _ h => h.1) hfc opk_push0 (by decide) (by decide) hT.d5 (by simp [cutB, be]) (by omega) hl (by simp; omega) (by omega) (by omega) (by omega)) fun w6 h6 => ?_
  rw [List.append_assoc] at h6
  obtain ⟨G, R, e1, e2, e3, hS⟩ := h6
  refine Play.step (stepS_return w0 _ c fb cap fs0 (m + 39) G ns la _ so R ds1 ds2 bs mb cv g0 vv r7 a0 a1 a2 a3 ds1 w6 hS hA2 (fun _ h => h.1) (fun _ h => h.2) hO hT.d6 hl (by omega) (by omega) hb hs hcap (gas_lt e2 (by omega))) fun w7 h7 => ?_
  exact play_end ⟨G, la, _, R, by omega, h7.1⟩ h7.2
/-- The code up to the first SSTORE. -/
structure HeadC (ds k x : List Nat) : Prop where
  d0 : ds[0]? = some 127
  c0 : cutB ds 1 32 = x
  d1 : ds[33]? = some 127
  c1 : cutB ds 34 32 = k
  d2 : ds[66]? = some 85
theorem head_run1 {lo hi hR : Nat} {w0 : World} {A : World → Prop} {c fb cap : Nat} {fs0 : Array Value} {la : List (List Nat)} {mo : Option Nat} {so : Option (Nat × Nat)} {ds1 ds2 : List Nat} {cv : Value} {w : World} {ds : List Nat} (k x : List Nat) {Q : World → Prop} {n : Nat} (hB : StB lo hi hR w0 A c fb 0 1 cap fs0 0 [] nilS la mo so ds1 ds2 w) (hA : Stable A) (hcv : ∀ w, A w → NatV w cv ds) (hfc : FrC fs0 0 cv) (hH : HeadC ds k x) (hl : ds.length ≤ 1000) (hK : KeyOk (be k) mo so) (hlo : 22200 ≤ lo) (hhi : hi ≤ 1000000) (hhR : hR ≤ 1000000)
    (hk : ∀ w', StB (lo - 22106) hi (hR + 19900) w0 A c fb 0 1 cap fs0 67 [] nilS la (some (be k)) (slotNew (be k) (be x)) ds1 ds2 w' → Play c Q n w') : Play c Q (n + 3) w := by
  refine Play.step (stepB_push10 127 32 3 (be x) 33 hB hA hcv hfc (opk_push 127 (by decide) (by decide)) (by decide) (by decide) hH.d0 (by rw [hH.c0]) rfl hl (by decide) (by decide) (by omega) (by omega)) fun w1 h1 => ?_
  refine Play.step (stepB_push10 127 32 3 (be k) 66 h1 hA hcv hfc (opk_push 127 (by decide) (by decide)) (by decide) (by decide) hH.d1 (by rw [hH.c1]) rfl hl (by simp) (by decide) (by omega) (by omega)) fun w2 h2 => ?_
  refine Play.step (stepB_sstore1 [] (be k) (be x) h2 hA hcv hfc hH.d2 hl (by decide) (by decide) hK (by omega) (by omega) hhR) fun w3 h3 => ?_
  rw [show lo - 3 - 3 - 22100 = lo - 22106 from by omega] at h3
  exact hk w3 h3
theorem head_run2 {lo hi hR : Nat} {w0 : World} {A : World → Prop} {c fb cap : Nat} {fs0 : Array Value} {la : List (List Nat)} {mo : Option Nat} {so : Option (Nat × Nat)} {ds1 ds2 : List Nat} {cv : Value} {w : World} {ds : List Nat} (k x : List Nat) {Q : World → Prop} {n : Nat} (hB : StB lo hi hR w0 A c fb 60 2 cap fs0 0 [] nilS la mo so ds1 ds2 w) (hA : Stable A) (hcv : ∀ w, A w → NatV w cv ds) (hfc : FrC fs0 60 cv) (hH : HeadC ds k x) (hl : ds.length ≤ 1000) (hK : KeyOk (be k) mo so) (hlo : 22200 ≤ lo) (hhi : hi ≤ 1000000) (hhR : hR ≤ 1000000)
    (hk : ∀ w', StB (lo - 22106) hi (hR + 19900) w0 A c fb 60 2 cap fs0 67 [] nilS la (some (be k)) (slotNew (be k) (be x)) ds1 ds2 w' → Play c Q n w') : Play c Q (n + 3) w := by
  refine Play.step (stepB_push20 127 32 3 (be x) 33 hB hA hcv hfc (opk_push 127 (by decide) (by decide)) (by decide) (by decide) hH.d0 (by rw [hH.c0]) rfl hl (by decide) (by decide) (by omega) (by omega)) fun w1 h1 => ?_
  refine Play.step (stepB_push20 127 32 3 (be k) 66 h1 hA hcv hfc (opk_push 127 (by decide) (by decide)) (by decide) (by decide) hH.d1 (by rw [hH.c1]) rfl hl (by simp) (by decide) (by omega) (by omega)) fun w2 h2 => ?_
  refine Play.step (stepB_sstore2 [] (be k) (be x) h2 hA hcv hfc hH.d2 hl (by decide) (by decide) hK (by omega) (by omega) hhR) fun w3 h3 => ?_
  rw [show lo - 3 - 3 - 22100 = lo - 22106 from by omega] at h3
  exact hk w3 h3
/-- The code of the call. -/
structure MidC (ds : List Nat) : Prop where
  d0 : ds[67]? = some 95
  d1 : ds[68]? = some 95
  d2 : ds[69]? = some 95
  d3 : ds[70]? = some 95
  d4 : ds[71]? = some 96
  c4 : cutB ds 72 1 = [2]
  d5 : ds[73]? = some 97
  c5 : cutB ds 74 2 = [195, 80]
  d6 : ds[76]? = some 244
theorem mid_run {lo hi hR : Nat} {w0 : World} {c fb cap : Nat} {fs0 : Array Value} {so : Option (Nat × Nat)} {ds1 ds2 : List Nat} {cv g0 vv a0 a1 a2 a3 : Value} {w : World} (K : Nat) {Q : World → Prop} {n : Nat} (hB : StB lo hi hR w0 (fun w => NatV w cv ds1) c fb 0 1 cap fs0 67 [] nilS la5 (some K) so ds1 ds2 w) (hO : OutF fs0 g0 vv cv nilS a0 a1 a2 a3) (hv1 : vv.oneCell' = true) (hM : MidC ds1) (hl : ds1.length ≤ 1000) (hso : so = none ∨ ∃ V, so = some (K, V)) (hsz : fs0.size = cap * 60) (hcap : cap ≤ maxLen) (hc1 : 1 ≤ cap) (hlo : 150000 ≤ lo) (hhi : hi ≤ 200000)
    (hk : ∀ (fb' cap' : Nat) (cur : Array Value) (pv gv sv r7 cw sg b0 b1 b2 b3 : Value) (xs : List Value) (G1 R : Nat) (w' : World), 90000 ≤ G1 → G1 + 50000 ≤ hi → R ≤ hR → TwoF cur fs0 cap' pv gv sv r7 nilS sg vv cw b0 b1 b2 b3 → StB 50000 50000 hR w0 (InV cv cw pv gv sv r7 b0 b1 b2 b3 xs 76 G1 [] (adWith la5 (ad 2)) (some K) so R ds1 ds2) c fb' 60 2 cap' cur 0 [] nilS (adWith la5 (ad 2)) (some K) so ds1 ds2 w' → Play c Q n w') : Play c Q (n + 7) w := by
  have hfc := hO.frC
  have hA := stable_nat cv ds1
  refine Play.step (stepB_push10 95 0 2 0 68 hB hA (fun _ h => h) hfc opk_push0 (by decide) (by decide) hM.d0 (by simp [cutB, be]) rfl hl (by simp) (by decide) (by omega) (by omega)) fun w1 h1 => ?_
  refine Play.step (stepB_push10 95 0 2 0 69 h1 hA (fun _ h => h) hfc opk_push0 (by decide) (by decide) hM.d1 (by simp [cutB, be]) rfl hl (by simp) (by decide) (by omega) (by omega)) fun w2 h2 => ?_
  refine Play.step (stepB_push10 95 0 2 0 70 h2 hA (fun _ h => h) hfc opk_push0 (by decide) (by decide) hM.d2 (by simp [cutB, be]) rfl hl (by simp) (by decide) (by omega) (by omega)) fun w3 h3 => ?_
  refine Play.step (stepB_push10 95 0 2 0 71 h3 hA (fun _ h => h) hfc opk_push0 (by decide) (by decide) hM.d3 (by simp [cutB, be]) rfl hl (by simp) (by decide) (by omega) (by omega)) fun w4 h4 => ?_
  refine Play.step (stepB_push10 96 1 3 2 73 h4 hA (fun _ h => h) hfc (opk_push 96 (by decide) (by decide)) (by decide) (by decide) hM.d4 (by rw [hM.c4]; rfl) rfl hl (by simp) (by decide) (by omega) (by omega)) fun w5 h5 => ?_
  refine Play.step (stepB_push10 97 2 3 50000 76 h5 hA (fun _ h => h) hfc (opk_push 97 (by decide) (by decide)) (by decide) (by decide) hM.d5 (by rw [hM.c5]; rfl) rfl hl (by simp) (by decide) (by omega) (by omega)) fun w6 h6 => ?_
  obtain ⟨G, R, e1, e2, e3, hS⟩ := h6
  have hmin : min 50000 (G - 2600 - (G - 2600) / 64) = 50000 := Nat.min_eq_left (by omega)
  refine Play.step (stepS_delegate w0 c fb cap fs0 76 G [] la5 so R ds1 ds2 K 50000 cv vv none 0 w6 hS hfc (hO.cur 5 (by decide) (by decide) (by decide) (by decide) (by decide)) hv1 hO.caller hM.d6 hl (by decide) (by decide) hso (by decide) (by decide) (by decide) (by decide) hsz hcap hc1 (by omega) (by omega)) fun w7 h7 => ?_
  rw [hmin] at h7
  obtain ⟨fb', cap', cur, pv, gv, sv, r7, cw, sg, b0, b1, b2, b3, xs, hT, h7⟩ := h7
  exact hk fb' cap' cur pv gv sv r7 cw sg b0 b1 b2 b3 xs (G - 2600 - 50000) R w7 (by omega) (by omega) e3 hT ⟨50000, R, by omega, by omega, e3, h7⟩
theorem run_zero {hR : Nat} {w0 : World} {c fb cap : Nat} {fs0 : Array Value} {ds1 ds2 : List Nat} {cv g0 vv a0 a1 a2 a3 : Value} {w : World} (k x : List Nat) (hB : StB 179000 179000 0 w0 (fun w => NatV w cv ds1) c fb 0 1 cap fs0 0 [] nilS la5 none none ds1 ds2 w) (hO : OutF fs0 g0 vv cv nilS a0 a1 a2 a3) (hc1 : 1 ≤ cap) (hH : HeadC ds1 k x) (hT : TailC ds1 k 67) (hl : ds1.length ≤ 1000) (hb : x.length = 32) (hs : Small x) :
    Play c (fun w2 => EndX w2 c x (slotNew (be k) (be x)) ds1 ds2 ∧ Kept [c] w0 w2) 10 w := by
  refine head_run1 k x hB (stable_nat cv ds1) (fun _ h => h) hO.frC hH hl ⟨.inl rfl, .inl rfl⟩ (by decide) (by decide) (by decide) fun w1 h1 => ?_
  exact tail_run k x h1 hO hc1 hT hb hs (slotVal_new _ _) (slotNew_ok _ _) hl (by decide) (by decide) (by decide) (by decide)
theorem run_one {w0 : World} {c fb cap : Nat} {fs0 : Array Value} {ds1 ds2 : List Nat} {cv g0 vv a0 a1 a2 a3 : Value} {w : World} (k x y : List Nat) (hB : StB 179000 179000 0 w0 (fun w => NatV w cv ds1) c fb 0 1 cap fs0 0 [] nilS la5 none none ds1 ds2 w) (hO : OutF fs0 g0 vv cv nilS a0 a1 a2 a3) (hv1 : vv.oneCell' = true) (hsz : fs0.size = cap * 60) (hcap : cap ≤ maxLen) (hc1 : 1 ≤ cap) (hH : HeadC ds1 k x) (hM : MidC ds1) (hT : TailC ds1 k 77) (hH2 : HeadC ds2 k y) (hE0 : ds2[67]? = some 0) (hl : ds1.length ≤ 1000) (hl2 : ds2.length ≤ 1000) (hb : y.length = 32) (hs : Small y) :
    Play c (fun w2 => EndX w2 c y (slotNew (be k) (be y)) ds1 ds2 ∧ Kept [c] w0 w2) 21 w := by
  refine head_run1 k x hB (stable_nat cv ds1) (fun _ h => h) hO.frC hH hl ⟨.inl rfl, .inl rfl⟩ (by decide) (by decide) (by decide) fun w1 h1 => ?_
  refine mid_run (be k) h1 hO hv1 hM hl (slotNew_ok _ _) hsz hcap hc1 (by decide) (by decide) fun fb' cap' cur pv gv sv r7 cw sg b0 b1 b2 b3 xs G1 R w2 g1 g2 g3 hT2 h2 => ?_
  have hA := stable_in cv cw pv gv sv r7 b0 b1 b2 b3 xs 76 G1 [] (adWith la5 (ad 2)) (some (be k)) (slotNew (be k) (be x)) R ds1 ds2
  refine head_run2 k y h2 hA (fun _ h => h.d) hT2.frC hH2 hl2 ⟨.inr rfl, slotNew_ok _ _⟩ (by decide) (by decide) (by decide) fun w3 h3 => ?_
  obtain ⟨G, R2, e1, e2, e3, hS⟩ := h3
  have h7 := hS.a.r.one
  refine Play.step (stepS_ok w0 c fb' cap' cur fs0 67 G [] _ _ _ _ _ _ R2 R ds1 ds2 cv cw pv gv sv r7 sg vv b0 b1 b2 b3 xs 76 G1 [] none 0 nilS _ hT2 hS hv1 hE0 hl2 (by decide) (by decide) (by decide) (by decide) (gas_lt g2 (by decide) |> fun h => Nat.lt_of_le_of_lt (by omega) h) (gas_lt e2 (by decide))) fun w8 h8 => ?_
  obtain ⟨fs1, q1, q2, q3⟩ := h8
  have hO2 := outF_back hO hT2 q1 q2 h7
  exact tail_run (lo := 90000) (hi := 179000) (hR := 0 + 19900 + 19900) k y ⟨_, _, by omega, by omega, by omega, q3⟩ hO2 (by decide) hT hb hs (slotVal_new _ _) (slotNew_ok _ _) hl (by decide) (by decide) (by decide) (by decide)
theorem run_two {w0 : World} {c fb cap : Nat} {fs0 : Array Value} {ds1 ds2 : List Nat} {cv g0 vv a0 a1 a2 a3 : Value} {w : World} (k x y : List Nat) (hB : StB 179000 179000 0 w0 (fun w => NatV w cv ds1) c fb 0 1 cap fs0 0 [] nilS la5 none none ds1 ds2 w) (hO : OutF fs0 g0 vv cv nilS a0 a1 a2 a3) (hv1 : vv.oneCell' = true) (hsz : fs0.size = cap * 60) (hcap : cap ≤ maxLen) (hc1 : 1 ≤ cap) (hH : HeadC ds1 k x) (hM : MidC ds1) (hT : TailC ds1 k 77) (hH2 : HeadC ds2 k y) (hE0 : ds2[67]? = some 95) (hE1 : ds2[68]? = some 95) (hE2 : ds2[69]? = some 253) (hl : ds1.length ≤ 1000) (hl2 : ds2.length ≤ 1000) (hb : x.length = 32) (hs : Small x) :
    Play c (fun w2 => EndX w2 c x (slotNew (be k) (be x)) ds1 ds2 ∧ Kept [c] w0 w2) 23 w := by
  refine head_run1 k x hB (stable_nat cv ds1) (fun _ h => h) hO.frC hH hl ⟨.inl rfl, .inl rfl⟩ (by decide) (by decide) (by decide) fun w1 h1 => ?_
  refine mid_run (be k) h1 hO hv1 hM hl (slotNew_ok _ _) hsz hcap hc1 (by decide) (by decide) fun fb' cap' cur pv gv sv r7 cw sg b0 b1 b2 b3 xs G1 R w2 g1 g2 g3 hT2 h2 => ?_
  have hA := stable_in cv cw pv gv sv r7 b0 b1 b2 b3 xs 76 G1 [] (adWith la5 (ad 2)) (some (be k)) (slotNew (be k) (be x)) R ds1 ds2
  refine head_run2 k y h2 hA (fun _ h => h.d) hT2.frC hH2 hl2 ⟨.inr rfl, slotNew_ok _ _⟩ (by decide) (by decide) (by decide) fun w3 h3 => ?_
  refine Play.step (stepB_push20 95 0 2 0 68 h3 hA (fun _ h => h.d) hT2.frC opk_push0 (by decide) (by decide) hE0 (by simp [cutB, be]) rfl hl2 (by simp) (by decide) (by omega) (by omega)) fun w4 h4 => ?_
  refine Play.step (stepB_push20 95 0 2 0 69 h4 hA (fun _ h => h.d) hT2.frC opk_push0 (by decide) (by decide) hE1 (by simp [cutB, be]) rfl hl2 (by simp) (by decide) (by omega) (by omega)) fun w5 h5 => ?_
  obtain ⟨G, R2, e1, e2, e3, hS⟩ := h5
  have h7 := hS.a.r.one
  refine Play.step (stepS_revert w0 c fb' cap' cur fs0 69 G [] _ _ _ _ _ _ R2 R ds1 ds2 cv cw pv gv sv r7 sg vv b0 b1 b2 b3 xs 76 G1 [] none 0 nilS _ hT2 hS hv1 hE2 hl2 (by decide) (by decide) (by decide) (by decide) (gas_lt g2 (by decide) |> fun h => Nat.lt_of_le_of_lt (by omega) h) (gas_lt e2 (by decide))) fun w8 h8 => ?_
  obtain ⟨fs1, q1, q2, q3⟩ := h8
  have hO2 := outF_back hO hT2 q1 q2 h7
  exact tail_run (lo := 90000) (hi := 179000) (hR := 0 + 19900 + 19900) k x ⟨_, _, by omega, by omega, by omega, q3⟩ hO2 (by decide) hT hb hs (slotVal_new _ _) (slotNew_ok _ _) hl (by decide) (by decide) (by decide) (by decide)
theorem run_three {w0 : World} {c fb cap : Nat} {fs0 : Array Value} {ds1 ds2 : List Nat} {cv g0 vv a0 a1 a2 a3 : Value} {w : World} (k x y : List Nat) (hB : StB 179000 179000 0 w0 (fun w => NatV w cv ds1) c fb 0 1 cap fs0 0 [] nilS la5 none none ds1 ds2 w) (hO : OutF fs0 g0 vv cv nilS a0 a1 a2 a3) (hv1 : vv.oneCell' = true) (hsz : fs0.size = cap * 60) (hcap : cap ≤ maxLen) (hc1 : 1 ≤ cap) (hH : HeadC ds1 k x) (hM : MidC ds1) (hT : TailC ds1 k 77) (hH2 : HeadC ds2 k y) (hE0 : ds2[67]? = some 254) (hl : ds1.length ≤ 1000) (hl2 : ds2.length ≤ 1000) (hb : x.length = 32) (hs : Small x) :
    Play c (fun w2 => EndX w2 c x (slotNew (be k) (be x)) ds1 ds2 ∧ Kept [c] w0 w2) 21 w := by
  refine head_run1 k x hB (stable_nat cv ds1) (fun _ h => h) hO.frC hH hl ⟨.inl rfl, .inl rfl⟩ (by decide) (by decide) (by decide) fun w1 h1 => ?_
  refine mid_run (be k) h1 hO hv1 hM hl (slotNew_ok _ _) hsz hcap hc1 (by decide) (by decide) fun fb' cap' cur pv gv sv r7 cw sg b0 b1 b2 b3 xs G1 R w2 g1 g2 g3 hT2 h2 => ?_
  have hA := stable_in cv cw pv gv sv r7 b0 b1 b2 b3 xs 76 G1 [] (adWith la5 (ad 2)) (some (be k)) (slotNew (be k) (be x)) R ds1 ds2
  refine head_run2 k y h2 hA (fun _ h => h.d) hT2.frC hH2 hl2 ⟨.inr rfl, slotNew_ok _ _⟩ (by decide) (by decide) (by decide) fun w3 h3 => ?_
  obtain ⟨G, R2, e1, e2, e3, hS⟩ := h3
  have h7 := hS.a.r.one
  refine Play.step (stepS_fail w0 c fb' cap' cur fs0 67 G [] _ _ _ _ _ _ R2 R ds1 ds2 cv cw pv gv sv r7 sg vv b0 b1 b2 b3 xs 76 G1 [] none 0 nilS _ hT2 hS hv1 hE0 hl2 (by decide) (by decide) (by decide) (by decide) (gas_lt g2 (by decide) |> fun h => Nat.lt_of_le_of_lt (by omega) h) (gas_lt e2 (by decide))) fun w8 h8 => ?_
  obtain ⟨fs1, q1, q2, q3⟩ := h8
  have hO2 := outF_back hO hT2 q1 q2 h7
  exact tail_run (lo := 90000) (hi := 179000) (hR := 0 + 19900 + 19900) k x ⟨_, _, by omega, by omega, by omega, q3⟩ hO2 (by decide) hT hb hs (slotVal_new _ _) (slotNew_ok _ _) hl (by decide) (by decide) (by decide) (by decide)
end Go.Proofs.YgcsalGreat

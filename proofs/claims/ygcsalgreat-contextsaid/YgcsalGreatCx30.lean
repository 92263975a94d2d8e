/-
  The walk of (*yp.State).enterCreate at CREATE in the outer frame.
-/
import Derived.Test.YgcsalGreatCx29
set_option linter.unusedSimpArgs false
set_option linter.unusedVariables false
namespace Go.Own
open Go.Proofs.YgcsalGreat
/-- The address that account 1's first creation makes. -/
def ha6 : List Nat := [83, 91, 61, 122, 37, 47, 160, 52, 237, 113, 240, 197, 62, 192, 198, 247, 132, 203, 100, 225]
theorem hadr6 : hadr (214 :: 148 :: (ad 1 ++ [1])) = ha6 := by
  unfold hadr
  rw [show (214 :: 148 :: (ad 1 ++ [1])) = ls6 from rfl, ksum6]
  rfl
theorem small_ha6 : Small ha6 := by
  intro x hx
  have h : ∀ x ∈ ha6, x < 256 := by decide
  exact h x hx
end Go.Own
namespace Go.Proofs.YgcsalGreat
open Go.RowKit Go.Own

set_option maxHeartbeats 4000000 in
set_option maxRecDepth 100000 in
theorem enterCreate_0 (c fb cap m G V : Nat) (E : XEnv) (fs0 : Array Value) (mv rt : Value) (mem : List Nat) (la : List (List Nat)) (D : List AD) (da ds0 d2 : AD) (w : World) (hC : ChY w c E (.slice (some ⟨fb, 0, none⟩) 1 cap) rt la) (hA : AccD D w E.vz) (hF : FrameQ w fb 0 fs0 m G [19, 13, V] mv) (hmem : NatV w mv mem) (hml : mem.length ≤ 1000) (hcut : cutB mem 13 19 = probeL) (hse : fs0.extract (0 + 12) (0 + 12 + 20) = ((ad 1).map n8).toArray) (hda : D.find? (fun x => x.adr == ad 1) = some da) (hN1' : da.N = 1) (hB : da.B < 256 ^ 100) (hVB : V ≤ da.B) (hG : G < 1000000) (hm1 : m ≤ 900) (hdn : (dPut ⟨ad 1, 1 + 1, da.B, da.ds⟩ false D).find? (fun x => x.adr == ha6) = none) (hds : (dPut ⟨ha6, 1, 0, []⟩ false (dPut ⟨ad 1, 1 + 1, da.B, da.ds⟩ false D)).find? (fun x => x.adr == ad 1) = some ds0) (hsB : ds0.B < 256 ^ 100) (hsV : V ≤ ds0.B) (hl0 : 0 < D.length) (hl : D.length ≤ 15) (hl1 : (dPut ⟨ad 1, 1 + 1, da.B, da.ds⟩ false D).length ≤ 15) (h01 : 0 < (dPut ⟨ad 1, 1 + 1, da.B, da.ds⟩ false D).length) (hlN : (dPut ⟨ha6, 1, 0, []⟩ false (dPut ⟨ad 1, 1 + 1, da.B, da.ds⟩ false D)).length ≤ 15) (hla : la.length ≤ 15) (hmd : E.md = nilS) (hsz : fs0.size = cap * 60) (hcap : cap ≤ maxLen) (hc1 : 1 ≤ cap) (hV0 : V = 0) :
    Calls Salg.prog 193 #[.pointer (some ⟨c, 0, none⟩), .pointer (some ⟨fb, 0, none⟩), .int .u8 240] w fun e w' => ∃ (r : Value) (fb' cap' : Nat) (cur : Array Value) (pv gv sv r7 cw sg vn a0 a1 a3 a6 vz' md : Value), e = .returned r ∧ md.oneCell' = true ∧ ChY w' c { E with vz := vz', md := md } (.slice (some ⟨fb', 0, none⟩) 2 cap') nilS (adWith la ha6) ∧ w'.heap[fb']? = some (.cells cur 142 (0, 0)) ∧ (fb' = fb ∨ w.heap.size ≤ fb') ∧ (∀ k, k < 60 → k ≠ 3 → k ≠ 4 → k ≠ 6 → k ≠ 7 → k ≠ 8 → k ≠ 9 → cur[k]? = fs0[k]?) ∧ cur[0 + 3]? = some pv ∧ cur[0 + 4]? = some gv ∧ cur[0 + 7]? = some r7 ∧ cur[0 + 8]? = some sv ∧ cur[0 + 9]? = some mv ∧ (∃ r6 : Value, cur[0 + 6]? = some r6 ∧ r6.oneCell' = true) ∧ PartsV w' pv gv sv [] m (G - min G (G - G / 64)) [] ∧ NumV w' r7 0 ∧ (∀ k, k < 60 → cur[60 + k]? = (frG 5 false sg vn cw nilS ha6 (ad 1) (wrow5 a0 a1 a3 a6))[k]?) ∧ NumV w' sg (min G (G - G / 64)) ∧ NatV w' cw probeL ∧ NumV w' vn V ∧ cur.size = cap' * 60 ∧ cap' ≤ maxLen ∧ 2 ≤ cap' ∧ (a0.oneCell' = true ∧ a1.oneCell' = true ∧ a3.oneCell' = true ∧ a6.oneCell' = true) ∧ AccD (dPut ⟨ha6, 1, 0, []⟩ false (dPut ⟨ad 1, 1 + 1, da.B, da.ds⟩ false D)) w' vz' ∧ Kept [c, fb] w w' := by
  obtain ⟨fs, pv, gv, sv, xs, hr, h0, h2, h3, h4, h5, h6, h7, h8, h9, h9m⟩ := hF
  have hxl : xs.length = 3 := by have := h9.1; simpa using this
  obtain ⟨u0, hu0⟩ : ∃ u, xs[xs.length - 1 - 0]? = some u := ⟨_, List.getElem?_eq_getElem (by omega)⟩
  obtain ⟨u1, hu1⟩ : ∃ u, xs[xs.length - 1 - 1]? = some u := ⟨_, List.getElem?_eq_getElem (by omega)⟩
  obtain ⟨u2, hu2⟩ : ∃ u, xs[xs.length - 1 - 2]? = some u := ⟨_, List.getElem?_eq_getElem (by omega)⟩
  have N0 : Hid (NumV w u0 V) := h9.2 _ _ _ hu0 (by rw [hxl]; rfl)
  have N1 : Hid (NumV w u1 13) := h9.2 _ _ _ hu1 (by rw [hxl]; rfl)
  have N2 : Hid (NumV w u2 19) := h9.2 _ _ _ hu2 (by rw [hxl]; rfl)
  obtain ⟨p, cp, rfl⟩ : ∃ p cap, sv = .slice p xs.length cap := by
    rcases h8 with ⟨rfl, rfl⟩ | ⟨g, cap, cur, rfl, _⟩
    · exact ⟨none, 0, rfl⟩
    · exact ⟨_, _, rfl⟩
  have HNB := hid (not_bytes_at (tc := 142) h7)
  have HPV := hid h4
  have HGV := hid h6
  have HSV := hid h8
  have HMM := hid hmem
  obtain ⟨wz, c1, c2⟩ := hC
  have HWZ := hid c2
  have HAC := hid hA
  have hz : fs.size = cap * 60 := h0.trans hsz
  have HSE : Hid (fs.extract (0 + 12) (0 + 12 + 20) = ((ad 1).map n8).toArray) := by
    have e := ext_same20 (a := 0 + 12) (fs1 := fs) (fs0 := fs0) (by omega) (by omega) fun k k1 k2 => h2 k (by omega) (by omega) (by omega) (by omega)
    exact e.trans hse
  have HX2 := hid h2
  have HDA := hid hda
  have HDN := hid hdn
  have HDS := hid hds
  have HV0 := hid hV0
  skip
  skip
  skip
  have HN1' := hid hN1'
  have HCUT := hid hcut
  have hfc : fb ≠ c := by
    intro h
    subst h
    rw [hr] at c1
    injection c1 with c1
    injection c1 with _ c1 _
    exact absurd c1 (by decide)
  have hfl := lt_of_row hr
  have hcl := lt_of_row c1
  have z4 : 0 + 4 < fs.size := by omega
  have hdc : decide (cmpI da.B V < 0) = false := by
    unfold cmpI
    rw [if_neg (by omega)]
    split <;> rfl
  have HDC := hid hdc
  have BN0 := hid N0.out
  have BN1 := hid N1.out
  have BN2 := hid N2.out
  have BHPV := hid HPV.out
  have BHGV := hid HGV.out
  have BHMM := hid HMM.out
  have BHSV := hid HSV.out
  have BHWZ := hid HWZ.out
  have BHAC := hid HAC.out
  have HH : Hid (Hard [c, fb] w) := by
    intro x hx
    simp only [List.mem_cons, List.mem_singleton, List.not_mem_nil, or_false] at hx
    rcases hx with rfl | rfl
    · exact ⟨_, 119, c1, .inl rfl, chy_nb _ _ _ _⟩
    · exact ⟨_, 142, hr, .inr rfl, HNB.out⟩
  have M : Mem w [c, fb] [(c, .cells (chN E wz (.slice (some ⟨fb, 0, none⟩) 1 cap) rt) 119 (0, 0)), (fb, .cells fs 142 (0, 0))] w := ((Mem.start w [c, fb]).add hr (by simp)).add c1 (by simpa using hfc.symm)
  clear h2 h4 h6 h8 h9 hA hmem c1 c2 hr hse h0 hda hdn hds hdc hV0 hN1' hcut 
  go_enter Salg.func193, Salg.ntmps193
  go_wp2_with fail
  refine (arity_create _).mono ?_
  rintro e w1 ⟨rfl, hw⟩
  replace hw := hw.symm
  subst hw
  go_wp2_with fail
  refine (arg_q fb 0 fs _ u0 xs 0 _ M.r1 h7 HSV.out (by omega) hu0 (by omega)).mono ?_
  rintro e w2 ⟨rfl, K⟩
  replace N0 := hid (N0.out.kept K)
  replace N1 := hid (N1.out.kept K)
  replace N2 := hid (N2.out.kept K)
  replace HPV := hid (HPV.out.kept K)
  replace HGV := hid (HGV.out.kept K)
  replace HMM := hid (HMM.out.kept K)
  replace HSV := hid (HSV.out.kept K)
  replace HWZ := hid (HWZ.out.kept K)
  replace HAC := hid ((AccD.still _).kept HAC.out K)
  replace M := M.call K
  clear K 
  go_wp2_with fail
  refine S_region (by kernel_rfl) ?_
  replace N0 := hid (N0.out.kept (Kept.refl [] _).drew)
  replace N1 := hid (N1.out.kept (Kept.refl [] _).drew)
  replace N2 := hid (N2.out.kept (Kept.refl [] _).drew)
  replace HPV := hid (HPV.out.kept (Kept.refl [] _).drew)
  replace HGV := hid (HGV.out.kept (Kept.refl [] _).drew)
  replace HMM := hid (HMM.out.kept (Kept.refl [] _).drew)
  replace HSV := hid (HSV.out.kept (Kept.refl [] _).drew)
  replace HWZ := hid (HWZ.out.kept (Kept.refl [] _).drew)
  replace HAC := hid ((AccD.still _).kept HAC.out (Kept.refl [] _).drew)
  refine E_float 0 9 [0, 1, 2, 3, 4, 5, 6, 7] 8 10 _ (by kernel_rfl) ⟨⟨_, _, _, _, _, rfl, zero128, rfl⟩⟩ (by intro x hx; simp only [List.mem_cons, List.mem_singleton, List.not_mem_nil, or_false] at hx; rcases hx with rfl | rfl <;> assumption) M.drew ?_
  clear M
  simp only [List.filterMap_cons, List.filterMap_nil, List.getElem?_cons_zero, List.getElem?_cons_succ]
  ((with_reducible apply E_run); rfl; rfl; (intro w M; go_simp; (try go_ints); (try simp only [↓IntWalk.iteOmega]); (try with_reducible rfl)); simp only [Act.put, List.setIfInBounds_toArray, List.set_cons_zero, List.set_cons_succ])
  ((with_reducible apply E_run); rfl; rfl; (intro w M; go_simp; (try go_ints); (try simp only [↓IntWalk.iteOmega]); (try with_reducible rfl)); simp only [Act.put, List.setIfInBounds_toArray, List.set_cons_zero, List.set_cons_succ])
  ((with_reducible apply E_run); rfl; rfl; (intro w M; go_simp; (try go_ints); (try simp only [↓IntWalk.iteOmega]); (try with_reducible rfl)); simp only [Act.put, List.setIfInBounds_toArray, List.set_cons_zero, List.set_cons_succ])
  ((with_reducible apply E_run); rfl; rfl; (intro w M; go_simp; (try go_ints); (try simp only [↓IntWalk.iteOmega]); (try with_reducible rfl)); simp only [Act.put, List.setIfInBounds_toArray, List.set_cons_zero, List.set_cons_succ])
  ((with_reducible apply E_run); rfl; rfl; (intro w M; go_simp; (try go_ints); (try simp only [↓IntWalk.iteOmega]); (try with_reducible rfl)); simp only [Act.put, List.setIfInBounds_toArray, List.set_cons_zero, List.set_cons_succ])
  ((with_reducible apply E_run); rfl; rfl; (intro w M; go_simp; (try go_ints); (try simp only [↓IntWalk.iteOmega]); (try with_reducible rfl)); simp only [Act.put, List.setIfInBounds_toArray, List.set_cons_zero, List.set_cons_succ])
  ((with_reducible apply E_run (v := .agg ((ad 1).map n8).toArray)); rfl; rfl; (intro w M; exact run_loadX (n := 20) M.r1 rfl Salg.underlying45 rfl size45 (by omega) HSE.out); simp only [Act.put, List.setIfInBounds_toArray, List.set_cons_zero, List.set_cons_succ])
  refine E_call rfl Salg.func85 (by kernel_rfl) (by kernel_rfl) (args := [.pointer (some ⟨c, 0, none⟩), A8 (ad 1)]) rfl ?_
  intro w1 K M
  replace N0 := hid (N0.out.kept K)
  replace N1 := hid (N1.out.kept K)
  replace N2 := hid (N2.out.kept K)
  replace HPV := hid (HPV.out.kept K)
  replace HGV := hid (HGV.out.kept K)
  replace HMM := hid (HMM.out.kept K)
  replace HSV := hid (HSV.out.kept K)
  replace HWZ := hid (HWZ.out.kept K)
  replace HAC := hid ((AccD.still _).kept HAC.out K)
  clear K
  refine (account_D c 119 _ E.vz D da (ad 1) _ M.r0 (chN_get _ _ _ _ (by decide)) HAC.out rfl HDA.out).mono ?_
  rintro e w3 ⟨nva, bva, cua, rfl, xHNA, xHBA, xHCA, K⟩
  replace N0 := hid (N0.out.kept K)
  replace N1 := hid (N1.out.kept K)
  replace N2 := hid (N2.out.kept K)
  replace HPV := hid (HPV.out.kept K)
  replace HGV := hid (HGV.out.kept K)
  replace HMM := hid (HMM.out.kept K)
  replace HSV := hid (HSV.out.kept K)
  replace HWZ := hid (HWZ.out.kept K)
  replace HAC := hid ((AccD.still _).kept HAC.out K)
  have HNA := hid xHNA
  have HBA := hid xHBA
  have HCA := hid xHCA
  replace M := M.call K
  refine ⟨_, rfl, K.mono (by simp), M, ?_⟩
  clear K xHNA xHBA xHCA
  simp only [Act.put, List.setIfInBounds_toArray, List.set_cons_zero, List.set_cons_succ]
  refine E_nil ?_
  intro w4 K M
  replace N0 := hid (N0.out.kept K)
  replace N1 := hid (N1.out.kept K)
  replace N2 := hid (N2.out.kept K)
  replace HPV := hid (HPV.out.kept K)
  replace HGV := hid (HGV.out.kept K)
  replace HMM := hid (HMM.out.kept K)
  replace HSV := hid (HSV.out.kept K)
  replace HWZ := hid (HWZ.out.kept K)
  replace HAC := hid ((AccD.still _).kept HAC.out K)
  replace HNA := hid (HNA.out.kept K)
  replace HBA := hid (HBA.out.kept K)
  replace HCA := hid (HCA.out.kept K)
  clear K
  intro t10 w5 K ht10 M
  replace N0 := hid (N0.out.kept K)
  replace N1 := hid (N1.out.kept K)
  replace N2 := hid (N2.out.kept K)
  replace HPV := hid (HPV.out.kept K)
  replace HGV := hid (HGV.out.kept K)
  replace HMM := hid (HMM.out.kept K)
  replace HSV := hid (HSV.out.kept K)
  replace HWZ := hid (HWZ.out.kept K)
  replace HAC := hid ((AccD.still _).kept HAC.out K)
  replace HNA := hid (HNA.out.kept K)
  replace HBA := hid (HBA.out.kept K)
  replace HCA := hid (HCA.out.kept K)
  clear K
  simp only [Act.put, List.setIfInBounds_toArray, List.set_cons_zero, List.set_cons_succ]
  refine S_seg 9 10 (by kernel_rfl) (by decide) ?_
  simp only [List.take_succ_cons, List.take_zero, List.drop_zero, List.drop_succ_cons, Nat.sub_zero, Nat.reduceSub]
  have HON1 : Hid (∀ u ∈ (⟨ad 1, [nva, bva, cua, nilS]⟩ : Ac).cells.toArray.toList, u.oneCell' = true) := one_list (by
    have e : ((⟨ad 1, [nva, bva, cua, nilS]⟩ : Ac).cells.toArray.toList.all fun u => u.oneCell') = (nva.oneCell' && (bva.oneCell' && (cua.oneCell' && true))) := by kernel_rfl
    rw [e, HNA.out.one, HBA.out.one, HCA.out.one]
    rfl)
  go_wp2_with ((with_reducible apply W_storeK (b := t10) (vs := (⟨ad 1, [nva, bva, cua, nilS]⟩ : Ac).cells.toArray)); rfl; rfl; exact M.r0; exact size128; rfl; exact HON1.out; intro w6 K hr3; replace HNA := hid (HNA.out.keptC K M.r0 (not_bytes_at (i := 20) (p := none) (n := 0) (m := 0) (by kernel_rfl))); replace HBA := hid (HBA.out.keptC K M.r0 (not_bytes_at (i := 20) (p := none) (n := 0) (m := 0) (by kernel_rfl))); replace M := Mem.callPut (L1 := []) M (Or.inr ht10) K hr3; clear K hr3; simp only [List.nil_append] at M)
  clear HCA
  rw [HN1'.out] at HNA
  replace N0 := hid (BN0.out.keptN M.kept HH.out)
  replace N1 := hid (BN1.out.keptN M.kept HH.out)
  replace N2 := hid (BN2.out.keptN M.kept HH.out)
  replace HPV := hid (BHPV.out.keptN M.kept HH.out)
  replace HGV := hid (BHGV.out.keptN M.kept HH.out)
  replace HMM := hid (BHMM.out.keptN M.kept HH.out)
  replace HSV := hid (BHSV.out.keptN M.kept HH.out)
  replace HWZ := hid (AdsV.keptN' BHWZ.out M.kept HH.out)
  replace HAC := hid ((AccD.still D) _ _ _ _ BHAC.out M.kept HH.out)
  clear BN0 BN1 BN2 BHPV BHGV BHMM BHSV BHWZ BHAC
  refine S_done ?_
  go_wp2_with fail
  refine S_region (by kernel_rfl) ?_
  replace N0 := hid (N0.out.kept (Kept.refl [] _).drew)
  replace N1 := hid (N1.out.kept (Kept.refl [] _).drew)
  replace N2 := hid (N2.out.kept (Kept.refl [] _).drew)
  replace HPV := hid (HPV.out.kept (Kept.refl [] _).drew)
  replace HGV := hid (HGV.out.kept (Kept.refl [] _).drew)
  replace HMM := hid (HMM.out.kept (Kept.refl [] _).drew)
  replace HSV := hid (HSV.out.kept (Kept.refl [] _).drew)
  replace HWZ := hid (HWZ.out.kept (Kept.refl [] _).drew)
  replace HAC := hid ((AccD.still _).kept HAC.out (Kept.refl [] _).drew)
  replace HNA := hid (HNA.out.kept (Kept.refl [] _).drew)
  replace HBA := hid (HBA.out.kept (Kept.refl [] _).drew)
  refine E_stage 0 21 [0, 1, 2, 3, 4, 5, 6, 7, 8, 9, 10, 11, 12, 13, 14, 15, 16, 17, 18, 19, 20] (by kernel_rfl) M.drew ?_
  clear M
  simp only [List.filterMap_cons, List.filterMap_nil, List.getElem?_cons_zero, List.getElem?_cons_succ]
  ((with_reducible apply E_run); rfl; rfl; (intro w M; go_simp; (try go_ints); (try simp only [↓IntWalk.iteOmega]); (try with_reducible rfl)); simp only [Act.put, List.setIfInBounds_toArray, List.set_cons_zero, List.set_cons_succ])
  ((with_reducible apply E_run); rfl; rfl; (intro w M; go_simp; (try go_ints); (try simp only [↓IntWalk.iteOmega]); (try with_reducible rfl)); simp only [Act.put, List.setIfInBounds_toArray, List.set_cons_zero, List.set_cons_succ])
  ((with_reducible apply E_run); rfl; rfl; (intro w M; go_simp; (try go_ints); (try simp only [↓IntWalk.iteOmega]); (try with_reducible rfl)); simp only [Act.put, List.setIfInBounds_toArray, List.set_cons_zero, List.set_cons_succ])
  ((with_reducible apply E_run); rfl; rfl; (intro w M; exact run_loadCell (M.r1) rfl (show (chN E wz (.slice (some ⟨fb, 0, none⟩) 1 cap) rt)[9]? = some (.slice (some ⟨fb, 0, none⟩) 1 cap) by kernel_rfl) Salg.underlying115 rfl); simp only [Act.put, List.setIfInBounds_toArray, List.set_cons_zero, List.set_cons_succ])
  ((with_reducible apply E_run); rfl; rfl; (intro w M; go_simp; (try go_ints); (try simp only [↓IntWalk.iteOmega]); (try with_reducible rfl)); simp only [Act.put, List.setIfInBounds_toArray, List.set_cons_zero, List.set_cons_succ])
  ((with_reducible apply E_run); rfl; rfl; (intro w M; go_simp; (try go_ints); (try simp only [↓IntWalk.iteOmega]); (try with_reducible rfl)); simp only [Act.put, List.setIfInBounds_toArray, List.set_cons_zero, List.set_cons_succ])
  ((with_reducible apply E_run); rfl; rfl; (intro w M; go_simp; (try go_ints); (try simp only [↓IntWalk.iteOmega]); (try with_reducible rfl)); simp only [Act.put, List.setIfInBounds_toArray, List.set_cons_zero, List.set_cons_succ])
  ((with_reducible apply E_run); rfl; rfl; (intro w M; go_simp; (try go_ints); (try simp only [↓IntWalk.iteOmega]); (try with_reducible rfl)); simp only [Act.put, List.setIfInBounds_toArray, List.set_cons_zero, List.set_cons_succ])
  ((with_reducible apply E_run); rfl; rfl; (intro w M; go_simp; (try go_ints); (try simp only [↓IntWalk.iteOmega]); (try with_reducible rfl)); simp only [Act.put, List.setIfInBounds_toArray, List.set_cons_zero, List.set_cons_succ])
  ((with_reducible apply E_run); rfl; rfl; (intro w M; exact run_loadCell (M.r0) rfl (show (⟨ad 1, [nva, bva, cua, nilS]⟩ : Ac).cells.toArray[21]? = some bva by kernel_rfl) Salg.underlying89 rfl); simp only [Act.put, List.setIfInBounds_toArray, List.set_cons_zero, List.set_cons_succ])
  ((with_reducible apply E_run); rfl; rfl; (intro w M; go_simp; (try go_ints); (try simp only [↓IntWalk.iteOmega]); (try with_reducible rfl)); simp only [Act.put, List.setIfInBounds_toArray, List.set_cons_zero, List.set_cons_succ])
  refine E_call rfl Salg.func72 (by kernel_rfl) (by kernel_rfl) (args := [bva, u0]) rfl ?_
  intro w1 K M
  replace N0 := hid (N0.out.kept K)
  replace N1 := hid (N1.out.kept K)
  replace N2 := hid (N2.out.kept K)
  replace HPV := hid (HPV.out.kept K)
  replace HGV := hid (HGV.out.kept K)
  replace HMM := hid (HMM.out.kept K)
  replace HSV := hid (HSV.out.kept K)
  replace HWZ := hid (HWZ.out.kept K)
  replace HAC := hid ((AccD.still _).kept HAC.out K)
  replace HNA := hid (HNA.out.kept K)
  replace HBA := hid (HBA.out.kept K)
  clear K
  refine (cmp_num bva u0 da.B V _ HBA.out N0.out).mono ?_
  rintro e w7 ⟨rfl, K⟩
  replace N0 := hid (N0.out.kept K)
  replace N1 := hid (N1.out.kept K)
  replace N2 := hid (N2.out.kept K)
  replace HPV := hid (HPV.out.kept K)
  replace HGV := hid (HGV.out.kept K)
  replace HMM := hid (HMM.out.kept K)
  replace HSV := hid (HSV.out.kept K)
  replace HWZ := hid (HWZ.out.kept K)
  replace HAC := hid ((AccD.still _).kept HAC.out K)
  replace HNA := hid (HNA.out.kept K)
  replace HBA := hid (HBA.out.kept K)
  replace M := M.call K
  refine ⟨_, rfl, trivial, M, ?_⟩
  clear K 
  simp only [Act.put, List.setIfInBounds_toArray, List.set_cons_zero, List.set_cons_succ]
  ((with_reducible apply E_run (v := .bool (decide (cmpI da.B V < 0)))); rfl; rfl; (intro w M; go_simp; (try go_ints); (try with_reducible rfl)); simp only [Act.put, List.setIfInBounds_toArray, List.set_cons_zero, List.set_cons_succ])
  rw [HDC.out]
  ((with_reducible apply E_run); rfl; rfl; (intro w M; go_simp; (try go_ints); (try simp only [↓IntWalk.iteOmega]); (try with_reducible rfl)); simp only [Act.put, List.setIfInBounds_toArray, List.set_cons_zero, List.set_cons_succ])
  ((with_reducible apply E_run); rfl; rfl; (intro w M; go_simp; (try go_ints); (try simp only [↓IntWalk.iteOmega]); (try with_reducible rfl)); simp only [Act.put, List.setIfInBounds_toArray, List.set_cons_zero, List.set_cons_succ])
  ((with_reducible apply E_run); rfl; rfl; (intro w M; go_simp; (try go_ints); (try simp only [↓IntWalk.iteOmega]); (try with_reducible rfl)); simp only [Act.put, List.setIfInBounds_toArray, List.set_cons_zero, List.set_cons_succ])
  ((with_reducible apply E_run); rfl; rfl; (intro w M; exact run_loadCell (M.r0) rfl (show (⟨ad 1, [nva, bva, cua, nilS]⟩ : Ac).cells.toArray[20]? = some nva by kernel_rfl) Salg.underlying89 rfl); simp only [Act.put, List.setIfInBounds_toArray, List.set_cons_zero, List.set_cons_succ])
  refine E_call rfl Salg.func87 (by kernel_rfl) (by kernel_rfl) (args := [.int .u64 18446744073709551615]) rfl ?_
  intro w1 K M
  replace N0 := hid (N0.out.kept K)
  replace N1 := hid (N1.out.kept K)
  replace N2 := hid (N2.out.kept K)
  replace HPV := hid (HPV.out.kept K)
  replace HGV := hid (HGV.out.kept K)
  replace HMM := hid (HMM.out.kept K)
  replace HSV := hid (HSV.out.kept K)
  replace HWZ := hid (HWZ.out.kept K)
  replace HAC := hid ((AccD.still _).kept HAC.out K)
  replace HNA := hid (HNA.out.kept K)
  replace HBA := hid (HBA.out.kept K)
  clear K
  refine (num_int _ 18446744073709551615 rfl (by decide) _).mono ?_
  rintro e w8 ⟨nm, rfl, xHNM, K⟩
  replace N0 := hid (N0.out.kept K)
  replace N1 := hid (N1.out.kept K)
  replace N2 := hid (N2.out.kept K)
  replace HPV := hid (HPV.out.kept K)
  replace HGV := hid (HGV.out.kept K)
  replace HMM := hid (HMM.out.kept K)
  replace HSV := hid (HSV.out.kept K)
  replace HWZ := hid (HWZ.out.kept K)
  replace HAC := hid ((AccD.still _).kept HAC.out K)
  replace HNA := hid (HNA.out.kept K)
  replace HBA := hid (HBA.out.kept K)
  have HNM := hid xHNM
  replace M := M.call K
  refine ⟨_, rfl, trivial, M, ?_⟩
  clear K xHNM
  simp only [Act.put, List.setIfInBounds_toArray, List.set_cons_zero, List.set_cons_succ]
  refine E_call rfl Salg.func72 (by kernel_rfl) (by kernel_rfl) (args := [nva, nm]) rfl ?_
  intro w1 K M
  replace N0 := hid (N0.out.kept K)
  replace N1 := hid (N1.out.kept K)
  replace N2 := hid (N2.out.kept K)
  replace HPV := hid (HPV.out.kept K)
  replace HGV := hid (HGV.out.kept K)
  replace HMM := hid (HMM.out.kept K)
  replace HSV := hid (HSV.out.kept K)
  replace HWZ := hid (HWZ.out.kept K)
  replace HAC := hid ((AccD.still _).kept HAC.out K)
  replace HNA := hid (HNA.out.kept K)
  replace HBA := hid (HBA.out.kept K)
  replace HNM := hid (HNM.out.kept K)
  clear K
  refine (cmp_lit nva nm 1 18446744073709551615 (-1) (by decide) _ HNA.out HNM.out).mono ?_
  rintro e w9 ⟨rfl, K⟩
  replace N0 := hid (N0.out.kept K)
  replace N1 := hid (N1.out.kept K)
  replace N2 := hid (N2.out.kept K)
  replace HPV := hid (HPV.out.kept K)
  replace HGV := hid (HGV.out.kept K)
  replace HMM := hid (HMM.out.kept K)
  replace HSV := hid (HSV.out.kept K)
  replace HWZ := hid (HWZ.out.kept K)
  replace HAC := hid ((AccD.still _).kept HAC.out K)
  replace HNA := hid (HNA.out.kept K)
  replace HBA := hid (HBA.out.kept K)
  replace HNM := hid (HNM.out.kept K)
  replace M := M.call K
  refine ⟨_, rfl, trivial, M, ?_⟩
  clear K 
  simp only [Act.put, List.setIfInBounds_toArray, List.set_cons_zero, List.set_cons_succ]
  ((with_reducible apply E_run); rfl; rfl; (intro w M; go_simp; (try go_ints); (try simp only [↓IntWalk.iteOmega]); (try with_reducible rfl)); simp only [Act.put, List.setIfInBounds_toArray, List.set_cons_zero, List.set_cons_succ])
  ((with_reducible apply E_run); rfl; rfl; (intro w M; go_simp; (try go_ints); (try simp only [↓IntWalk.iteOmega]); (try with_reducible rfl)); simp only [Act.put, List.setIfInBounds_toArray, List.set_cons_zero, List.set_cons_succ])
  refine E_nil ?_
  intro wq K M
  replace N0 := hid (N0.out.kept K)
  replace N1 := hid (N1.out.kept K)
  replace N2 := hid (N2.out.kept K)
  replace HPV := hid (HPV.out.kept K)
  replace HGV := hid (HGV.out.kept K)
  replace HMM := hid (HMM.out.kept K)
  replace HSV := hid (HSV.out.kept K)
  replace HWZ := hid (HWZ.out.kept K)
  replace HAC := hid ((AccD.still _).kept HAC.out K)
  replace HNA := hid (HNA.out.kept K)
  replace HBA := hid (HBA.out.kept K)
  replace HNM := hid (HNM.out.kept K)
  clear K
  clear HNM
  refine S_done ?_
  go_wp2_with fail
  refine S_region (by kernel_rfl) ?_
  replace N0 := hid (N0.out.kept (Kept.refl [] _).drew)
  replace N1 := hid (N1.out.kept (Kept.refl [] _).drew)
  replace N2 := hid (N2.out.kept (Kept.refl [] _).drew)
  replace HPV := hid (HPV.out.kept (Kept.refl [] _).drew)
  replace HGV := hid (HGV.out.kept (Kept.refl [] _).drew)
  replace HMM := hid (HMM.out.kept (Kept.refl [] _).drew)
  replace HSV := hid (HSV.out.kept (Kept.refl [] _).drew)
  replace HWZ := hid (HWZ.out.kept (Kept.refl [] _).drew)
  replace HAC := hid ((AccD.still _).kept HAC.out (Kept.refl [] _).drew)
  replace HNA := hid (HNA.out.kept (Kept.refl [] _).drew)
  replace HBA := hid (HBA.out.kept (Kept.refl [] _).drew)
  refine E_float 0 14 [0, 2, 3, 4, 5, 6, 7, 9, 1, 8, 10, 11, 12] 13 11 _ (by kernel_rfl) ⟨⟨_, _, _, _, _, rfl, zero142, rfl⟩⟩ (by intro x hx; simp only [List.mem_cons, List.mem_singleton, List.not_mem_nil, or_false] at hx; rcases hx with rfl | rfl <;> assumption) M.drew ?_
  clear M
  simp only [List.filterMap_cons, List.filterMap_nil, List.getElem?_cons_zero, List.getElem?_cons_succ]
  ((with_reducible apply E_run); rfl; rfl; (intro w M; go_simp; (try go_ints); (try simp only [↓IntWalk.iteOmega]); (try with_reducible rfl)); simp only [Act.put, List.setIfInBounds_toArray, List.set_cons_zero, List.set_cons_succ])
  ((with_reducible apply E_run); rfl; rfl; (intro w M; go_simp; (try go_ints); (try simp only [↓IntWalk.iteOmega]); (try with_reducible rfl)); simp only [Act.put, List.setIfInBounds_toArray, List.set_cons_zero, List.set_cons_succ])
  ((with_reducible apply E_run); rfl; rfl; (intro w M; go_simp; (try go_ints); (try simp only [↓IntWalk.iteOmega]); (try with_reducible rfl)); simp only [Act.put, List.setIfInBounds_toArray, List.set_cons_zero, List.set_cons_succ])
  ((with_reducible apply E_run); rfl; rfl; (intro w M; go_simp; (try go_ints); (try simp only [↓IntWalk.iteOmega]); (try with_reducible rfl)); simp only [Act.put, List.setIfInBounds_toArray, List.set_cons_zero, List.set_cons_succ])
  ((with_reducible apply E_run (v := .agg ((ad 1).map n8).toArray)); rfl; rfl; (intro w M; exact run_loadX (n := 20) M.r2 rfl Salg.underlying45 rfl size45 (by omega) HSE.out); simp only [Act.put, List.setIfInBounds_toArray, List.set_cons_zero, List.set_cons_succ])
  ((with_reducible apply E_run); rfl; rfl; (intro w M; go_simp; (try go_ints); (try simp only [↓IntWalk.iteOmega]); (try with_reducible rfl)); simp only [Act.put, List.setIfInBounds_toArray, List.set_cons_zero, List.set_cons_succ])
  ((with_reducible apply E_run); rfl; rfl; (intro w M; go_simp; (try go_ints); (try simp only [↓IntWalk.iteOmega]); (try with_reducible rfl)); simp only [Act.put, List.setIfInBounds_toArray, List.set_cons_zero, List.set_cons_succ])
  ((with_reducible apply E_run); rfl; rfl; (intro w M; go_simp; (try go_ints); (try simp only [↓IntWalk.iteOmega]); (try with_reducible rfl)); simp only [Act.put, List.setIfInBounds_toArray, List.set_cons_zero, List.set_cons_succ])
  refine E_call rfl Salg.func158 (by kernel_rfl) (by kernel_rfl) (args := [u0]) rfl ?_
  intro w1 K M
  replace N0 := hid (N0.out.kept K)
  replace N1 := hid (N1.out.kept K)
  replace N2 := hid (N2.out.kept K)
  replace HPV := hid (HPV.out.kept K)
  replace HGV := hid (HGV.out.kept K)
  replace HMM := hid (HMM.out.kept K)
  replace HSV := hid (HSV.out.kept K)
  replace HWZ := hid (HWZ.out.kept K)
  replace HAC := hid ((AccD.still _).kept HAC.out K)
  replace HNA := hid (HNA.out.kept K)
  replace HBA := hid (HBA.out.kept K)
  clear K
  refine (norm_num u0 V _ N0.out).mono ?_
  rintro e w10 ⟨vn, rfl, xHVN, K⟩
  replace N0 := hid (N0.out.kept K)
  replace N1 := hid (N1.out.kept K)
  replace N2 := hid (N2.out.kept K)
  replace HPV := hid (HPV.out.kept K)
  replace HGV := hid (HGV.out.kept K)
  replace HMM := hid (HMM.out.kept K)
  replace HSV := hid (HSV.out.kept K)
  replace HWZ := hid (HWZ.out.kept K)
  replace HAC := hid ((AccD.still _).kept HAC.out K)
  replace HNA := hid (HNA.out.kept K)
  replace HBA := hid (HBA.out.kept K)
  have HVN := hid xHVN
  replace M := M.call K
  refine ⟨_, rfl, K.mono (by simp), M, ?_⟩
  clear K xHVN
  simp only [Act.put, List.setIfInBounds_toArray, List.set_cons_zero, List.set_cons_succ]
  refine E_call rfl Salg.func116 (by kernel_rfl) (by kernel_rfl) (args := [.pointer (some ⟨fb, 0, none⟩), .int .i64 1]) rfl ?_
  intro w1 K M
  replace N0 := hid (N0.out.kept K)
  replace N1 := hid (N1.out.kept K)
  replace N2 := hid (N2.out.kept K)
  replace HPV := hid (HPV.out.kept K)
  replace HGV := hid (HGV.out.kept K)
  replace HMM := hid (HMM.out.kept K)
  replace HSV := hid (HSV.out.kept K)
  replace HWZ := hid (HWZ.out.kept K)
  replace HAC := hid ((AccD.still _).kept HAC.out K)
  replace HNA := hid (HNA.out.kept K)
  replace HBA := hid (HBA.out.kept K)
  replace HVN := hid (HVN.out.kept K)
  clear K
  refine (arg_q fb 0 fs _ u1 xs 1 _ M.r2 h7 HSV.out (by omega) hu1 (by omega)).mono ?_
  rintro e w11 ⟨rfl, K⟩
  replace N0 := hid (N0.out.kept K)
  replace N1 := hid (N1.out.kept K)
  replace N2 := hid (N2.out.kept K)
  replace HPV := hid (HPV.out.kept K)
  replace HGV := hid (HGV.out.kept K)
  replace HMM := hid (HMM.out.kept K)
  replace HSV := hid (HSV.out.kept K)
  replace HWZ := hid (HWZ.out.kept K)
  replace HAC := hid ((AccD.still _).kept HAC.out K)
  replace HNA := hid (HNA.out.kept K)
  replace HBA := hid (HBA.out.kept K)
  replace HVN := hid (HVN.out.kept K)
  replace M := M.call K
  refine ⟨_, rfl, K.mono (by simp), M, ?_⟩
  clear K 
  simp only [Act.put, List.setIfInBounds_toArray, List.set_cons_zero, List.set_cons_succ]
  refine E_call rfl Salg.func116 (by kernel_rfl) (by kernel_rfl) (args := [.pointer (some ⟨fb, 0, none⟩), .int .i64 2]) rfl ?_
  intro w1 K M
  replace N0 := hid (N0.out.kept K)
  replace N1 := hid (N1.out.kept K)
  replace N2 := hid (N2.out.kept K)
  replace HPV := hid (HPV.out.kept K)
  replace HGV := hid (HGV.out.kept K)
  replace HMM := hid (HMM.out.kept K)
  replace HSV := hid (HSV.out.kept K)
  replace HWZ := hid (HWZ.out.kept K)
  replace HAC := hid ((AccD.still _).kept HAC.out K)
  replace HNA := hid (HNA.out.kept K)
  replace HBA := hid (HBA.out.kept K)
  replace HVN := hid (HVN.out.kept K)
  clear K
  refine (arg_q fb 0 fs _ u2 xs 2 _ M.r2 h7 HSV.out (by omega) hu2 (by omega)).mono ?_
  rintro e w12 ⟨rfl, K⟩
  replace N0 := hid (N0.out.kept K)
  replace N1 := hid (N1.out.kept K)
  replace N2 := hid (N2.out.kept K)
  replace HPV := hid (HPV.out.kept K)
  replace HGV := hid (HGV.out.kept K)
  replace HMM := hid (HMM.out.kept K)
  replace HSV := hid (HSV.out.kept K)
  replace HWZ := hid (HWZ.out.kept K)
  replace HAC := hid ((AccD.still _).kept HAC.out K)
  replace HNA := hid (HNA.out.kept K)
  replace HBA := hid (HBA.out.kept K)
  replace HVN := hid (HVN.out.kept K)
  replace M := M.call K
  refine ⟨_, rfl, K.mono (by simp), M, ?_⟩
  clear K 
  simp only [Act.put, List.setIfInBounds_toArray, List.set_cons_zero, List.set_cons_succ]
  refine E_call rfl Salg.func115 (by kernel_rfl) (by kernel_rfl) (args := [.pointer (some ⟨fb, 0, none⟩), u1, u2]) rfl ?_
  intro w1 K M
  replace N0 := hid (N0.out.kept K)
  replace N1 := hid (N1.out.kept K)
  replace N2 := hid (N2.out.kept K)
  replace HPV := hid (HPV.out.kept K)
  replace HGV := hid (HGV.out.kept K)
  replace HMM := hid (HMM.out.kept K)
  replace HSV := hid (HSV.out.kept K)
  replace HWZ := hid (HWZ.out.kept K)
  replace HAC := hid ((AccD.still _).kept HAC.out K)
  replace HNA := hid (HNA.out.kept K)
  replace HBA := hid (HBA.out.kept K)
  replace HVN := hid (HVN.out.kept K)
  clear K
  refine (read_any fb 0 fs mv u1 u2 mem 13 19 _ M.r2 h9m HMM.out N1.out N2.out (by decide) hml).mono ?_
  rintro e w13 ⟨cw, rfl, xHCW, xHCX, K⟩
  replace N0 := hid (N0.out.kept K)
  replace N1 := hid (N1.out.kept K)
  replace N2 := hid (N2.out.kept K)
  replace HPV := hid (HPV.out.kept K)
  replace HGV := hid (HGV.out.kept K)
  replace HMM := hid (HMM.out.kept K)
  replace HSV := hid (HSV.out.kept K)
  replace HWZ := hid (HWZ.out.kept K)
  replace HAC := hid ((AccD.still _).kept HAC.out K)
  replace HNA := hid (HNA.out.kept K)
  replace HBA := hid (HBA.out.kept K)
  replace HVN := hid (HVN.out.kept K)
  have HCW := hid xHCW
  have HCX := hid xHCX
  replace M := M.call K
  refine ⟨_, rfl, K.mono (by simp), M, ?_⟩
  clear K xHCW xHCX
  simp only [Act.put, List.setIfInBounds_toArray, List.set_cons_zero, List.set_cons_succ]
  clear HCX
  rw [HCUT.out] at HCW
  ((with_reducible apply E_run (v := .agg (frG 5 false nilS vn cw nilS z20 (ad 1) wnil).toArray)); rfl; rfl; (intro w M; obtain ⟨p0, q0, s0, e0⟩ := HVN.out.slice; subst e0; obtain ⟨p1, q1, s1, e1⟩ := HCW.out.slice; subst e1; kernel_rfl); simp only [Act.put, List.setIfInBounds_toArray, List.set_cons_zero, List.set_cons_succ])
  refine E_nil ?_
  intro w14 K M
  replace N0 := hid (N0.out.kept K)
  replace N1 := hid (N1.out.kept K)
  replace N2 := hid (N2.out.kept K)
  replace HPV := hid (HPV.out.kept K)
  replace HGV := hid (HGV.out.kept K)
  replace HMM := hid (HMM.out.kept K)
  replace HSV := hid (HSV.out.kept K)
  replace HWZ := hid (HWZ.out.kept K)
  replace HAC := hid ((AccD.still _).kept HAC.out K)
  replace HNA := hid (HNA.out.kept K)
  replace HBA := hid (HBA.out.kept K)
  replace HVN := hid (HVN.out.kept K)
  replace HCW := hid (HCW.out.kept K)
  clear K
  intro t11 w15 K ht11 M
  replace N0 := hid (N0.out.kept K)
  replace N1 := hid (N1.out.kept K)
  replace N2 := hid (N2.out.kept K)
  replace HPV := hid (HPV.out.kept K)
  replace HGV := hid (HGV.out.kept K)
  replace HMM := hid (HMM.out.kept K)
  replace HSV := hid (HSV.out.kept K)
  replace HWZ := hid (HWZ.out.kept K)
  replace HAC := hid ((AccD.still _).kept HAC.out K)
  replace HNA := hid (HNA.out.kept K)
  replace HBA := hid (HBA.out.kept K)
  replace HVN := hid (HVN.out.kept K)
  replace HCW := hid (HCW.out.kept K)
  clear K
  simp only [Act.put, List.setIfInBounds_toArray, List.set_cons_zero, List.set_cons_succ]
  refine S_seg 14 15 (by kernel_rfl) (by decide) ?_
  simp only [List.take_succ_cons, List.take_zero, List.drop_zero, List.drop_succ_cons, Nat.sub_zero, Nat.reduceSub]
  have hvn1 := HVN.out.one
  have hcw1 := HCW.out.one
  go_wp2_with ((with_reducible apply W_storeK (b := t11) (vs := (frG 5 false nilS vn cw nilS z20 (ad 1) wnil).toArray)); rfl; rfl; exact M.r0; exact size142; rfl; exact frG_oneNL rfl hvn1 hcw1 rfl; intro w16 K hr3; replace N0 := hid (N0.out.keptC K M.r0 (not_bytes_at (i := 3) (p := none) (n := 0) (m := 0) (by kernel_rfl))); replace N1 := hid (N1.out.keptC K M.r0 (not_bytes_at (i := 3) (p := none) (n := 0) (m := 0) (by kernel_rfl))); replace N2 := hid (N2.out.keptC K M.r0 (not_bytes_at (i := 3) (p := none) (n := 0) (m := 0) (by kernel_rfl))); replace HPV := hid (HPV.out.keptC K M.r0 (not_bytes_at (i := 3) (p := none) (n := 0) (m := 0) (by kernel_rfl))); replace HGV := hid (HGV.out.keptC K M.r0 (not_bytes_at (i := 3) (p := none) (n := 0) (m := 0) (by kernel_rfl))); replace HMM := hid (HMM.out.keptC K M.r0 (not_bytes_at (i := 3) (p := none) (n := 0) (m := 0) (by kernel_rfl))); replace HSV := hid (HSV.out.keptC K M.r0 (by decide)); replace HWZ := hid (HWZ.out.keptC K M.r0 (by decide)); replace HAC := hid ((AccD.still _).keptC HAC.out K M.r0 (not_bytes_at (i := 3) (p := none) (n := 0) (m := 0) (by kernel_rfl)) (.inr rfl)); replace HNA := hid (HNA.out.keptC K M.r0 (not_bytes_at (i := 3) (p := none) (n := 0) (m := 0) (by kernel_rfl))); replace HBA := hid (HBA.out.keptC K M.r0 (not_bytes_at (i := 3) (p := none) (n := 0) (m := 0) (by kernel_rfl))); replace HVN := hid (HVN.out.keptC K M.r0 (not_bytes_at (i := 3) (p := none) (n := 0) (m := 0) (by kernel_rfl))); replace HCW := hid (HCW.out.keptC K M.r0 (not_bytes_at (i := 3) (p := none) (n := 0) (m := 0) (by kernel_rfl))); replace M := Mem.callPut (L1 := []) M (Or.inr ht11) K hr3; clear K hr3; simp only [List.nil_append] at M)
  refine S_done ?_
  go_wp2_with fail
  refine S_region (by kernel_rfl) ?_
  replace N0 := hid (N0.out.kept (Kept.refl [] _).drew)
  replace N1 := hid (N1.out.kept (Kept.refl [] _).drew)
  replace N2 := hid (N2.out.kept (Kept.refl [] _).drew)
  replace HPV := hid (HPV.out.kept (Kept.refl [] _).drew)
  replace HGV := hid (HGV.out.kept (Kept.refl [] _).drew)
  replace HMM := hid (HMM.out.kept (Kept.refl [] _).drew)
  replace HSV := hid (HSV.out.kept (Kept.refl [] _).drew)
  replace HWZ := hid (HWZ.out.kept (Kept.refl [] _).drew)
  replace HAC := hid ((AccD.still _).kept HAC.out (Kept.refl [] _).drew)
  replace HNA := hid (HNA.out.kept (Kept.refl [] _).drew)
  replace HBA := hid (HBA.out.kept (Kept.refl [] _).drew)
  replace HVN := hid (HVN.out.kept (Kept.refl [] _).drew)
  replace HCW := hid (HCW.out.kept (Kept.refl [] _).drew)
  refine E_stage 0 7 [0, 1, 2, 3, 4, 5, 6] (by kernel_rfl) M.drew ?_
  clear M
  simp only [List.filterMap_cons, List.filterMap_nil, List.getElem?_cons_zero, List.getElem?_cons_succ]
  ((with_reducible apply E_run); rfl; rfl; (intro w M; go_simp; (try go_ints); (try simp only [↓IntWalk.iteOmega]); (try with_reducible rfl)); simp only [Act.put, List.setIfInBounds_toArray, List.set_cons_zero, List.set_cons_succ])
  ((with_reducible apply E_run); rfl; rfl; (intro w M; go_simp; (try go_ints); (try simp only [↓IntWalk.iteOmega]); (try with_reducible rfl)); simp only [Act.put, List.setIfInBounds_toArray, List.set_cons_zero, List.set_cons_succ])
  ((with_reducible apply E_run); rfl; rfl; (intro w M; go_simp; (try go_ints); (try simp only [↓IntWalk.iteOmega]); (try with_reducible rfl)); simp only [Act.put, List.setIfInBounds_toArray, List.set_cons_zero, List.set_cons_succ])
  ((with_reducible apply E_run (v := .agg ((ad 1).map n8).toArray)); rfl; rfl; (intro w M; exact run_loadX (n := 20) M.r3 rfl Salg.underlying45 rfl size45 (by omega) HSE.out); simp only [Act.put, List.setIfInBounds_toArray, List.set_cons_zero, List.set_cons_succ])
  ((with_reducible apply E_run); rfl; rfl; (intro w M; go_simp; (try go_ints); (try simp only [↓IntWalk.iteOmega]); (try with_reducible rfl)); simp only [Act.put, List.setIfInBounds_toArray, List.set_cons_zero, List.set_cons_succ])
  ((with_reducible apply E_run); rfl; rfl; (intro w M; exact run_loadCell (M.r1) rfl (show (⟨ad 1, [nva, bva, cua, nilS]⟩ : Ac).cells.toArray[20]? = some nva by kernel_rfl) Salg.underlying89 rfl); simp only [Act.put, List.setIfInBounds_toArray, List.set_cons_zero, List.set_cons_succ])
  refine E_call rfl Salg.func86 (by kernel_rfl) (by kernel_rfl) (args := [A8 (ad 1), nva]) rfl ?_
  intro w1 K M
  replace N0 := hid (N0.out.kept K)
  replace N1 := hid (N1.out.kept K)
  replace N2 := hid (N2.out.kept K)
  replace HPV := hid (HPV.out.kept K)
  replace HGV := hid (HGV.out.kept K)
  replace HMM := hid (HMM.out.kept K)
  replace HSV := hid (HSV.out.kept K)
  replace HWZ := hid (HWZ.out.kept K)
  replace HAC := hid ((AccD.still _).kept HAC.out K)
  replace HNA := hid (HNA.out.kept K)
  replace HBA := hid (HBA.out.kept K)
  replace HVN := hid (HVN.out.kept K)
  replace HCW := hid (HCW.out.kept K)
  clear K
  refine (createAddr_1 nva (ad 1) _ HNA.out rfl (ad_small (by decide))).mono ?_
  rintro e w17 ⟨rfl, K⟩
  replace N0 := hid (N0.out.kept K)
  replace N1 := hid (N1.out.kept K)
  replace N2 := hid (N2.out.kept K)
  replace HPV := hid (HPV.out.kept K)
  replace HGV := hid (HGV.out.kept K)
  replace HMM := hid (HMM.out.kept K)
  replace HSV := hid (HSV.out.kept K)
  replace HWZ := hid (HWZ.out.kept K)
  replace HAC := hid ((AccD.still _).kept HAC.out K)
  replace HNA := hid (HNA.out.kept K)
  replace HBA := hid (HBA.out.kept K)
  replace HVN := hid (HVN.out.kept K)
  replace HCW := hid (HCW.out.kept K)
  replace M := M.call K
  refine ⟨_, rfl, trivial, M, ?_⟩
  rw [hadr6]
  clear K 
  simp only [Act.put, List.setIfInBounds_toArray, List.set_cons_zero, List.set_cons_succ]
  refine E_nil ?_
  intro wq K M
  replace N0 := hid (N0.out.kept K)
  replace N1 := hid (N1.out.kept K)
  replace N2 := hid (N2.out.kept K)
  replace HPV := hid (HPV.out.kept K)
  replace HGV := hid (HGV.out.kept K)
  replace HMM := hid (HMM.out.kept K)
  replace HSV := hid (HSV.out.kept K)
  replace HWZ := hid (HWZ.out.kept K)
  replace HAC := hid ((AccD.still _).kept HAC.out K)
  replace HNA := hid (HNA.out.kept K)
  replace HBA := hid (HBA.out.kept K)
  replace HVN := hid (HVN.out.kept K)
  replace HCW := hid (HCW.out.kept K)
  clear K
  refine S_seg 7 9 (by kernel_rfl) (by decide) ?_
  simp only [List.take_succ_cons, List.take_zero, List.drop_zero, List.drop_succ_cons, Nat.sub_zero, Nat.reduceSub]
  go_wp2_with ((with_reducible apply W_stP (b := t11) (o := 12) (n := 20) (v := A8 ha6) (rs := (frG 5 false nilS vn cw nilS ha6 (ad 1) wnil).toArray)); rfl; rfl; exact M.r0; exact size45; rfl; exact n8_ones _; exact Nat.le_of_ble_eq_true (by kernel_rfl); kernel_rfl; intro w18 K hr3; replace N0 := hid (N0.out.keptC K M.r0 (not_bytes_at (i := 3) (p := none) (n := 0) (m := 0) (by kernel_rfl))); replace N1 := hid (N1.out.keptC K M.r0 (not_bytes_at (i := 3) (p := none) (n := 0) (m := 0) (by kernel_rfl))); replace N2 := hid (N2.out.keptC K M.r0 (not_bytes_at (i := 3) (p := none) (n := 0) (m := 0) (by kernel_rfl))); replace HPV := hid (HPV.out.keptC K M.r0 (not_bytes_at (i := 3) (p := none) (n := 0) (m := 0) (by kernel_rfl))); replace HGV := hid (HGV.out.keptC K M.r0 (not_bytes_at (i := 3) (p := none) (n := 0) (m := 0) (by kernel_rfl))); replace HMM := hid (HMM.out.keptC K M.r0 (not_bytes_at (i := 3) (p := none) (n := 0) (m := 0) (by kernel_rfl))); replace HSV := hid (HSV.out.keptC K M.r0 (by decide)); replace HWZ := hid (HWZ.out.keptC K M.r0 (by decide)); replace HAC := hid ((AccD.still _).keptC HAC.out K M.r0 (not_bytes_at (i := 3) (p := none) (n := 0) (m := 0) (by kernel_rfl)) (.inr rfl)); replace HNA := hid (HNA.out.keptC K M.r0 (not_bytes_at (i := 3) (p := none) (n := 0) (m := 0) (by kernel_rfl))); replace HBA := hid (HBA.out.keptC K M.r0 (not_bytes_at (i := 3) (p := none) (n := 0) (m := 0) (by kernel_rfl))); replace HVN := hid (HVN.out.keptC K M.r0 (not_bytes_at (i := 3) (p := none) (n := 0) (m := 0) (by kernel_rfl))); replace HCW := hid (HCW.out.keptC K M.r0 (not_bytes_at (i := 3) (p := none) (n := 0) (m := 0) (by kernel_rfl))); replace M := Mem.callPut (L1 := []) M (Or.inr ht11) K hr3; clear K hr3; simp only [List.nil_append] at M)
  refine S_done ?_
  go_wp2_with fail
  refine S_region (by kernel_rfl) ?_
  replace N0 := hid (N0.out.kept (Kept.refl [] _).drew)
  replace N1 := hid (N1.out.kept (Kept.refl [] _).drew)
  replace N2 := hid (N2.out.kept (Kept.refl [] _).drew)
  replace HPV := hid (HPV.out.kept (Kept.refl [] _).drew)
  replace HGV := hid (HGV.out.kept (Kept.refl [] _).drew)
  replace HMM := hid (HMM.out.kept (Kept.refl [] _).drew)
  replace HSV := hid (HSV.out.kept (Kept.refl [] _).drew)
  replace HWZ := hid (HWZ.out.kept (Kept.refl [] _).drew)
  replace HAC := hid ((AccD.still _).kept HAC.out (Kept.refl [] _).drew)
  replace HNA := hid (HNA.out.kept (Kept.refl [] _).drew)
  replace HBA := hid (HBA.out.kept (Kept.refl [] _).drew)
  replace HVN := hid (HVN.out.kept (Kept.refl [] _).drew)
  replace HCW := hid (HCW.out.kept (Kept.refl [] _).drew)
  refine E_stage 0 11 [0, 1, 2, 3, 4, 5, 6, 7, 8, 9, 10] (by kernel_rfl) M.drew ?_
  clear M
  simp only [List.filterMap_cons, List.filterMap_nil, List.getElem?_cons_zero, List.getElem?_cons_succ]
  ((with_reducible apply E_run); rfl; rfl; (intro w M; go_simp; (try go_ints); (try simp only [↓IntWalk.iteOmega]); (try with_reducible rfl)); simp only [Act.put, List.setIfInBounds_toArray, List.set_cons_zero, List.set_cons_succ])
  ((with_reducible apply E_run); rfl; rfl; (intro w M; go_simp; (try go_ints); (try simp only [↓IntWalk.iteOmega]); (try with_reducible rfl)); simp only [Act.put, List.setIfInBounds_toArray, List.set_cons_zero, List.set_cons_succ])
  ((with_reducible apply E_run); rfl; rfl; (intro w M; go_simp; (try go_ints); (try simp only [↓IntWalk.iteOmega]); (try with_reducible rfl)); simp only [Act.put, List.setIfInBounds_toArray, List.set_cons_zero, List.set_cons_succ])
  ((with_reducible apply E_run); rfl; rfl; (intro w M; go_simp; (try go_ints); (try simp only [↓IntWalk.iteOmega]); (try with_reducible rfl)); simp only [Act.put, List.setIfInBounds_toArray, List.set_cons_zero, List.set_cons_succ])
  ((with_reducible apply E_run); rfl; rfl; (intro w M; go_simp; (try go_ints); (try simp only [↓IntWalk.iteOmega]); (try with_reducible rfl)); simp only [Act.put, List.setIfInBounds_toArray, List.set_cons_zero, List.set_cons_succ])
  ((with_reducible apply E_run); rfl; rfl; (intro w M; go_simp; (try go_ints); (try simp only [↓IntWalk.iteOmega]); (try with_reducible rfl)); simp only [Act.put, List.setIfInBounds_toArray, List.set_cons_zero, List.set_cons_succ])
  ((with_reducible apply E_run (v := .agg ((ad 1).map n8).toArray)); rfl; rfl; (intro w M; exact run_loadX (n := 20) M.r3 rfl Salg.underlying45 rfl size45 (by omega) HSE.out); simp only [Act.put, List.setIfInBounds_toArray, List.set_cons_zero, List.set_cons_succ])
  ((with_reducible apply E_run); rfl; rfl; (intro w M; go_simp; (try go_ints); (try simp only [↓IntWalk.iteOmega]); (try with_reducible rfl)); simp only [Act.put, List.setIfInBounds_toArray, List.set_cons_zero, List.set_cons_succ])
  ((with_reducible apply E_run); rfl; rfl; (intro w M; exact run_loadCell (M.r1) rfl (show (⟨ad 1, [nva, bva, cua, nilS]⟩ : Ac).cells.toArray[20]? = some nva by kernel_rfl) Salg.underlying89 rfl); simp only [Act.put, List.setIfInBounds_toArray, List.set_cons_zero, List.set_cons_succ])
  refine E_call rfl Salg.func87 (by kernel_rfl) (by kernel_rfl) (args := [.int .u64 1]) rfl ?_
  intro w1 K M
  replace N0 := hid (N0.out.kept K)
  replace N1 := hid (N1.out.kept K)
  replace N2 := hid (N2.out.kept K)
  replace HPV := hid (HPV.out.kept K)
  replace HGV := hid (HGV.out.kept K)
  replace HMM := hid (HMM.out.kept K)
  replace HSV := hid (HSV.out.kept K)
  replace HWZ := hid (HWZ.out.kept K)
  replace HAC := hid ((AccD.still _).kept HAC.out K)
  replace HNA := hid (HNA.out.kept K)
  replace HBA := hid (HBA.out.kept K)
  replace HVN := hid (HVN.out.kept K)
  replace HCW := hid (HCW.out.kept K)
  clear K
  refine (num_int _ 1 rfl (by decide) _).mono ?_
  rintro e w19 ⟨on, rfl, xHON, K⟩
  replace N0 := hid (N0.out.kept K)
  replace N1 := hid (N1.out.kept K)
  replace N2 := hid (N2.out.kept K)
  replace HPV := hid (HPV.out.kept K)
  replace HGV := hid (HGV.out.kept K)
  replace HMM := hid (HMM.out.kept K)
  replace HSV := hid (HSV.out.kept K)
  replace HWZ := hid (HWZ.out.kept K)
  replace HAC := hid ((AccD.still _).kept HAC.out K)
  replace HNA := hid (HNA.out.kept K)
  replace HBA := hid (HBA.out.kept K)
  replace HVN := hid (HVN.out.kept K)
  replace HCW := hid (HCW.out.kept K)
  have HON := hid xHON
  replace M := M.call K
  refine ⟨_, rfl, trivial, M, ?_⟩
  clear K xHON
  simp only [Act.put, List.setIfInBounds_toArray, List.set_cons_zero, List.set_cons_succ]
  refine E_call rfl Salg.func68 (by kernel_rfl) (by kernel_rfl) (args := [nva, on]) rfl ?_
  intro w1 K M
  replace N0 := hid (N0.out.kept K)
  replace N1 := hid (N1.out.kept K)
  replace N2 := hid (N2.out.kept K)
  replace HPV := hid (HPV.out.kept K)
  replace HGV := hid (HGV.out.kept K)
  replace HMM := hid (HMM.out.kept K)
  replace HSV := hid (HSV.out.kept K)
  replace HWZ := hid (HWZ.out.kept K)
  replace HAC := hid ((AccD.still _).kept HAC.out K)
  replace HNA := hid (HNA.out.kept K)
  replace HBA := hid (HBA.out.kept K)
  replace HVN := hid (HVN.out.kept K)
  replace HCW := hid (HCW.out.kept K)
  replace HON := hid (HON.out.kept K)
  clear K
  refine (add_num nva on 1 1 _ HNA.out HON.out (by decide) (by decide)).mono ?_
  rintro e w20 ⟨nn, rfl, xHNN, K⟩
  replace N0 := hid (N0.out.kept K)
  replace N1 := hid (N1.out.kept K)
  replace N2 := hid (N2.out.kept K)
  replace HPV := hid (HPV.out.kept K)
  replace HGV := hid (HGV.out.kept K)
  replace HMM := hid (HMM.out.kept K)
  replace HSV := hid (HSV.out.kept K)
  replace HWZ := hid (HWZ.out.kept K)
  replace HAC := hid ((AccD.still _).kept HAC.out K)
  replace HNA := hid (HNA.out.kept K)
  replace HBA := hid (HBA.out.kept K)
  replace HVN := hid (HVN.out.kept K)
  replace HCW := hid (HCW.out.kept K)
  replace HON := hid (HON.out.kept K)
  have HNN := hid xHNN
  replace M := M.call K
  refine ⟨_, rfl, trivial, M, ?_⟩
  clear K xHNN
  simp only [Act.put, List.setIfInBounds_toArray, List.set_cons_zero, List.set_cons_succ]
  refine E_nil ?_
  intro wq K M
  replace N0 := hid (N0.out.kept K)
  replace N1 := hid (N1.out.kept K)
  replace N2 := hid (N2.out.kept K)
  replace HPV := hid (HPV.out.kept K)
  replace HGV := hid (HGV.out.kept K)
  replace HMM := hid (HMM.out.kept K)
  replace HSV := hid (HSV.out.kept K)
  replace HWZ := hid (HWZ.out.kept K)
  replace HAC := hid ((AccD.still _).kept HAC.out K)
  replace HNA := hid (HNA.out.kept K)
  replace HBA := hid (HBA.out.kept K)
  replace HVN := hid (HVN.out.kept K)
  replace HCW := hid (HCW.out.kept K)
  replace HON := hid (HON.out.kept K)
  replace HNN := hid (HNN.out.kept K)
  clear K
  refine S_seg 11 12 (by kernel_rfl) (by decide) ?_
  simp only [List.take_succ_cons, List.take_zero, List.drop_zero, List.drop_succ_cons, Nat.sub_zero, Nat.reduceSub]
  go_wp2_with fail
  refine (setNonce_D c _ E.vz nn (1 + 1) D da (ad 1) _ M.r2 (chy_nb _ _ _ _) (chN_get _ _ _ _ (by decide)) HAC.out rfl (ad_small (by decide)) HNN.out HDA.out (by decide) (by omega)).mono ?_
  rintro e w21 ⟨r, v1, rfl, K, k1, k2⟩
  rw [show (chN E wz (.slice (some ⟨fb, 0, none⟩) 1 cap) rt).setIfInBounds 0 v1 = (chN { E with vz := v1 } wz (.slice (some ⟨fb, 0, none⟩) 1 cap) rt) from by kernel_rfl] at k1
  replace N0 := hid (N0.out.keptC K M.r2 (chy_nb _ _ _ _))
  replace N1 := hid (N1.out.keptC K M.r2 (chy_nb _ _ _ _))
  replace N2 := hid (N2.out.keptC K M.r2 (chy_nb _ _ _ _))
  replace HPV := hid (HPV.out.keptC K M.r2 (chy_nb _ _ _ _))
  replace HGV := hid (HGV.out.keptC K M.r2 (chy_nb _ _ _ _))
  replace HMM := hid (HMM.out.keptC K M.r2 (chy_nb _ _ _ _))
  replace HSV := hid (HSV.out.keptC K M.r2 (by decide))
  replace HWZ := hid (HWZ.out.keptC K M.r2 (by decide))
  replace HVN := hid (HVN.out.keptC K M.r2 (chy_nb _ _ _ _))
  replace HCW := hid (HCW.out.keptC K M.r2 (chy_nb _ _ _ _))
  replace HAC := hid k2
  replace M := Mem.callPut (L1 := [_, _]) M (Or.inl (by simp)) K k1
  clear K k1 k2 HON HNN HNA HBA
  simp only [List.cons_append, List.nil_append] at M
  go_wp2_with fail
  refine S_done ?_
  go_wp2_with fail
  refine S_region (by kernel_rfl) ?_
  replace N0 := hid (N0.out.kept (Kept.refl [] _).drew)
  replace N1 := hid (N1.out.kept (Kept.refl [] _).drew)
  replace N2 := hid (N2.out.kept (Kept.refl [] _).drew)
  replace HPV := hid (HPV.out.kept (Kept.refl [] _).drew)
  replace HGV := hid (HGV.out.kept (Kept.refl [] _).drew)
  replace HMM := hid (HMM.out.kept (Kept.refl [] _).drew)
  replace HSV := hid (HSV.out.kept (Kept.refl [] _).drew)
  replace HWZ := hid (HWZ.out.kept (Kept.refl [] _).drew)
  replace HAC := hid ((AccD.still _).kept HAC.out (Kept.refl [] _).drew)
  replace HVN := hid (HVN.out.kept (Kept.refl [] _).drew)
  replace HCW := hid (HCW.out.kept (Kept.refl [] _).drew)
  refine E_stage 0 9 [0, 1, 2, 3, 4, 5, 6, 7, 8] (by kernel_rfl) M.drew ?_
  clear M
  simp only [List.filterMap_cons, List.filterMap_nil, List.getElem?_cons_zero, List.getElem?_cons_succ]
  ((with_reducible apply E_run); rfl; rfl; (intro w M; go_simp; (try go_ints); (try simp only [↓IntWalk.iteOmega]); (try with_reducible rfl)); simp only [Act.put, List.setIfInBounds_toArray, List.set_cons_zero, List.set_cons_succ])
  ((with_reducible apply E_run); rfl; rfl; (intro w M; go_simp; (try go_ints); (try simp only [↓IntWalk.iteOmega]); (try with_reducible rfl)); simp only [Act.put, List.setIfInBounds_toArray, List.set_cons_zero, List.set_cons_succ])
  ((with_reducible apply E_run); rfl; rfl; (intro w M; go_simp; (try go_ints); (try simp only [↓IntWalk.iteOmega]); (try with_reducible rfl)); simp only [Act.put, List.setIfInBounds_toArray, List.set_cons_zero, List.set_cons_succ])
  ((with_reducible apply E_run); rfl; rfl; (intro w M; exact run_loadCell (M.r3) rfl h5 Salg.underlying89 rfl); simp only [Act.put, List.setIfInBounds_toArray, List.set_cons_zero, List.set_cons_succ])
  ((with_reducible apply E_run); rfl; rfl; (intro w M; go_simp; (try go_ints); (try simp only [↓IntWalk.iteOmega]); (try with_reducible rfl)); simp only [Act.put, List.setIfInBounds_toArray, List.set_cons_zero, List.set_cons_succ])
  ((with_reducible apply E_run); rfl; rfl; (intro w M; go_simp; (try go_ints); (try simp only [↓IntWalk.iteOmega]); (try with_reducible rfl)); simp only [Act.put, List.setIfInBounds_toArray, List.set_cons_zero, List.set_cons_succ])
  ((with_reducible apply E_run); rfl; rfl; (intro w M; go_simp; (try go_ints); (try simp only [↓IntWalk.iteOmega]); (try with_reducible rfl)); simp only [Act.put, List.setIfInBounds_toArray, List.set_cons_zero, List.set_cons_succ])
  ((with_reducible apply E_run); rfl; rfl; (intro w M; exact run_loadCell (M.r3) rfl h5 Salg.underlying89 rfl); simp only [Act.put, List.setIfInBounds_toArray, List.set_cons_zero, List.set_cons_succ])
  refine E_call rfl Salg.func220 (by kernel_rfl) (by kernel_rfl) (args := [gv, gv]) rfl ?_
  intro w1 K M
  replace N0 := hid (N0.out.kept K)
  replace N1 := hid (N1.out.kept K)
  replace N2 := hid (N2.out.kept K)
  replace HPV := hid (HPV.out.kept K)
  replace HGV := hid (HGV.out.kept K)
  replace HMM := hid (HMM.out.kept K)
  replace HSV := hid (HSV.out.kept K)
  replace HWZ := hid (HWZ.out.kept K)
  replace HAC := hid ((AccD.still _).kept HAC.out K)
  replace HVN := hid (HVN.out.kept K)
  replace HCW := hid (HCW.out.kept K)
  clear K
  refine (sentGas_any gv gv G G _ HGV.out HGV.out hG).mono ?_
  rintro e w22 ⟨sg, rfl, xHSG, K⟩
  replace N0 := hid (N0.out.kept K)
  replace N1 := hid (N1.out.kept K)
  replace N2 := hid (N2.out.kept K)
  replace HPV := hid (HPV.out.kept K)
  replace HGV := hid (HGV.out.kept K)
  replace HMM := hid (HMM.out.kept K)
  replace HSV := hid (HSV.out.kept K)
  replace HWZ := hid (HWZ.out.kept K)
  replace HAC := hid ((AccD.still _).kept HAC.out K)
  replace HVN := hid (HVN.out.kept K)
  replace HCW := hid (HCW.out.kept K)
  have HSG := hid xHSG
  replace M := M.call K
  refine ⟨_, rfl, trivial, M, ?_⟩
  clear K xHSG
  simp only [Act.put, List.setIfInBounds_toArray, List.set_cons_zero, List.set_cons_succ]
  refine E_nil ?_
  intro wq K M
  replace N0 := hid (N0.out.kept K)
  replace N1 := hid (N1.out.kept K)
  replace N2 := hid (N2.out.kept K)
  replace HPV := hid (HPV.out.kept K)
  replace HGV := hid (HGV.out.kept K)
  replace HMM := hid (HMM.out.kept K)
  replace HSV := hid (HSV.out.kept K)
  replace HWZ := hid (HWZ.out.kept K)
  replace HAC := hid ((AccD.still _).kept HAC.out K)
  replace HVN := hid (HVN.out.kept K)
  replace HCW := hid (HCW.out.kept K)
  replace HSG := hid (HSG.out.kept K)
  clear K
  refine S_seg 9 11 (by kernel_rfl) (by decide) ?_
  simp only [List.take_succ_cons, List.take_zero, List.drop_zero, List.drop_succ_cons, Nat.sub_zero, Nat.reduceSub]
  have hsg1 := HSG.out.one
  go_wp2_with ((with_reducible apply W_stV (b := t11) (o := 4) (v := sg)); rfl; rfl; exact hsg1; exact M.r0; exact size89; exact Nat.le_of_ble_eq_true (by kernel_rfl); intro w23 K hr3; rw [show (frG 5 false nilS vn cw nilS ha6 (ad 1) wnil).toArray.setIfInBounds 4 sg = (frG 5 false sg vn cw nilS ha6 (ad 1) wnil).toArray from by kernel_rfl] at hr3; replace N0 := hid (N0.out.keptC K M.r0 (not_bytes_at (i := 3) (p := none) (n := 0) (m := 0) (by kernel_rfl))); replace N1 := hid (N1.out.keptC K M.r0 (not_bytes_at (i := 3) (p := none) (n := 0) (m := 0) (by kernel_rfl))); replace N2 := hid (N2.out.keptC K M.r0 (not_bytes_at (i := 3) (p := none) (n := 0) (m := 0) (by kernel_rfl))); replace HPV := hid (HPV.out.keptC K M.r0 (not_bytes_at (i := 3) (p := none) (n := 0) (m := 0) (by kernel_rfl))); replace HGV := hid (HGV.out.keptC K M.r0 (not_bytes_at (i := 3) (p := none) (n := 0) (m := 0) (by kernel_rfl))); replace HMM := hid (HMM.out.keptC K M.r0 (not_bytes_at (i := 3) (p := none) (n := 0) (m := 0) (by kernel_rfl))); replace HSV := hid (HSV.out.keptC K M.r0 (by decide)); replace HWZ := hid (HWZ.out.keptC K M.r0 (by decide)); replace HAC := hid ((AccD.still _).keptC HAC.out K M.r0 (not_bytes_at (i := 3) (p := none) (n := 0) (m := 0) (by kernel_rfl)) (.inr rfl)); replace HVN := hid (HVN.out.keptC K M.r0 (not_bytes_at (i := 3) (p := none) (n := 0) (m := 0) (by kernel_rfl))); replace HCW := hid (HCW.out.keptC K M.r0 (not_bytes_at (i := 3) (p := none) (n := 0) (m := 0) (by kernel_rfl))); replace HSG := hid (HSG.out.keptC K M.r0 (not_bytes_at (i := 3) (p := none) (n := 0) (m := 0) (by kernel_rfl))); replace M := Mem.callPut (L1 := []) M (Or.inr ht11) K hr3; clear K hr3; simp only [List.nil_append] at M)
  refine S_done ?_
  go_wp2_with fail
  refine S_region (by kernel_rfl) ?_
  replace N0 := hid (N0.out.kept (Kept.refl [] _).drew)
  replace N1 := hid (N1.out.kept (Kept.refl [] _).drew)
  replace N2 := hid (N2.out.kept (Kept.refl [] _).drew)
  replace HPV := hid (HPV.out.kept (Kept.refl [] _).drew)
  replace HGV := hid (HGV.out.kept (Kept.refl [] _).drew)
  replace HMM := hid (HMM.out.kept (Kept.refl [] _).drew)
  replace HSV := hid (HSV.out.kept (Kept.refl [] _).drew)
  replace HWZ := hid (HWZ.out.kept (Kept.refl [] _).drew)
  replace HAC := hid ((AccD.still _).kept HAC.out (Kept.refl [] _).drew)
  replace HVN := hid (HVN.out.kept (Kept.refl [] _).drew)
  replace HCW := hid (HCW.out.kept (Kept.refl [] _).drew)
  replace HSG := hid (HSG.out.kept (Kept.refl [] _).drew)
  refine E_stage 0 8 [0, 1, 2, 3, 4, 5, 6, 7] (by kernel_rfl) M.drew ?_
  clear M
  simp only [List.filterMap_cons, List.filterMap_nil, List.getElem?_cons_zero, List.getElem?_cons_succ]
  ((with_reducible apply E_run); rfl; rfl; (intro w M; go_simp; (try go_ints); (try simp only [↓IntWalk.iteOmega]); (try with_reducible rfl)); simp only [Act.put, List.setIfInBounds_toArray, List.set_cons_zero, List.set_cons_succ])
  ((with_reducible apply E_run); rfl; rfl; (intro w M; go_simp; (try go_ints); (try simp only [↓IntWalk.iteOmega]); (try with_reducible rfl)); simp only [Act.put, List.setIfInBounds_toArray, List.set_cons_zero, List.set_cons_succ])
  ((with_reducible apply E_run); rfl; rfl; (intro w M; go_simp; (try go_ints); (try simp only [↓IntWalk.iteOmega]); (try with_reducible rfl)); simp only [Act.put, List.setIfInBounds_toArray, List.set_cons_zero, List.set_cons_succ])
  ((with_reducible apply E_run); rfl; rfl; (intro w M; go_simp; (try go_ints); (try simp only [↓IntWalk.iteOmega]); (try with_reducible rfl)); simp only [Act.put, List.setIfInBounds_toArray, List.set_cons_zero, List.set_cons_succ])
  ((with_reducible apply E_run); rfl; rfl; (intro w M; exact run_loadCell (M.r3) rfl h5 Salg.underlying89 rfl); simp only [Act.put, List.setIfInBounds_toArray, List.set_cons_zero, List.set_cons_succ])
  ((with_reducible apply E_run); rfl; rfl; (intro w M; go_simp; (try go_ints); (try simp only [↓IntWalk.iteOmega]); (try with_reducible rfl)); simp only [Act.put, List.setIfInBounds_toArray, List.set_cons_zero, List.set_cons_succ])
  ((with_reducible apply E_run); rfl; rfl; (intro w M; exact run_loadCell (M.r0) rfl (show (frG 5 false sg vn cw nilS ha6 (ad 1) wnil).toArray[4]? = some sg by kernel_rfl) Salg.underlying89 rfl); simp only [Act.put, List.setIfInBounds_toArray, List.set_cons_zero, List.set_cons_succ])
  refine E_call rfl Salg.func88 (by kernel_rfl) (by kernel_rfl) (args := [gv, sg]) rfl ?_
  intro w1 K M
  replace N0 := hid (N0.out.kept K)
  replace N1 := hid (N1.out.kept K)
  replace N2 := hid (N2.out.kept K)
  replace HPV := hid (HPV.out.kept K)
  replace HGV := hid (HGV.out.kept K)
  replace HMM := hid (HMM.out.kept K)
  replace HSV := hid (HSV.out.kept K)
  replace HWZ := hid (HWZ.out.kept K)
  replace HAC := hid ((AccD.still _).kept HAC.out K)
  replace HVN := hid (HVN.out.kept K)
  replace HCW := hid (HCW.out.kept K)
  replace HSG := hid (HSG.out.kept K)
  clear K
  refine (less_any gv sg G _ _ HGV.out HSG.out (by omega) (by omega)).mono ?_
  rintro e w24 ⟨lg, rfl, xHLG, K⟩
  replace N0 := hid (N0.out.kept K)
  replace N1 := hid (N1.out.kept K)
  replace N2 := hid (N2.out.kept K)
  replace HPV := hid (HPV.out.kept K)
  replace HGV := hid (HGV.out.kept K)
  replace HMM := hid (HMM.out.kept K)
  replace HSV := hid (HSV.out.kept K)
  replace HWZ := hid (HWZ.out.kept K)
  replace HAC := hid ((AccD.still _).kept HAC.out K)
  replace HVN := hid (HVN.out.kept K)
  replace HCW := hid (HCW.out.kept K)
  replace HSG := hid (HSG.out.kept K)
  have HLG := hid xHLG
  replace M := M.call K
  refine ⟨_, rfl, trivial, M, ?_⟩
  clear K xHLG
  simp only [Act.put, List.setIfInBounds_toArray, List.set_cons_zero, List.set_cons_succ]
  refine E_nil ?_
  intro wq K M
  replace N0 := hid (N0.out.kept K)
  replace N1 := hid (N1.out.kept K)
  replace N2 := hid (N2.out.kept K)
  replace HPV := hid (HPV.out.kept K)
  replace HGV := hid (HGV.out.kept K)
  replace HMM := hid (HMM.out.kept K)
  replace HSV := hid (HSV.out.kept K)
  replace HWZ := hid (HWZ.out.kept K)
  replace HAC := hid ((AccD.still _).kept HAC.out K)
  replace HVN := hid (HVN.out.kept K)
  replace HCW := hid (HCW.out.kept K)
  replace HSG := hid (HSG.out.kept K)
  replace HLG := hid (HLG.out.kept K)
  clear K
  refine S_seg 8 11 (by kernel_rfl) (by decide) ?_
  simp only [List.take_succ_cons, List.take_zero, List.drop_zero, List.drop_succ_cons, Nat.sub_zero, Nat.reduceSub]
  have hlg1 := HLG.out.one
  go_wp2_with ((with_reducible apply W_stV (b := fb) (o := 0 + 4) (v := lg)); rfl; rfl; exact hlg1; exact M.r3; exact size89; exact z4; intro w25 K hr3; replace N0 := hid (N0.out.keptC K M.r3 HNB.out); replace N1 := hid (N1.out.keptC K M.r3 HNB.out); replace N2 := hid (N2.out.keptC K M.r3 HNB.out); replace HPV := hid (HPV.out.keptC K M.r3 HNB.out); replace HGV := hid (HGV.out.keptC K M.r3 HNB.out); replace HMM := hid (HMM.out.keptC K M.r3 HNB.out); replace HSV := hid (HSV.out.keptC K M.r3 (by decide)); replace HWZ := hid (HWZ.out.keptC K M.r3 (by decide)); replace HAC := hid ((AccD.still _).keptC HAC.out K M.r3 HNB.out (.inr rfl)); replace HVN := hid (HVN.out.keptC K M.r3 HNB.out); replace HCW := hid (HCW.out.keptC K M.r3 HNB.out); replace HSG := hid (HSG.out.keptC K M.r3 HNB.out); replace HLG := hid (HLG.out.keptC K M.r3 HNB.out); replace M := Mem.callPut (L1 := [_, _, _]) M (Or.inl (by simp)) K hr3; clear K hr3; simp only [List.cons_append, List.nil_append] at M)
  refine S_done ?_
  go_wp2_with fail
  have HNB2 := hid (not_bytes_at (tc := 142) (cs := fs.setIfInBounds (0 + 4) lg) (i := 0 + 8) ((Array.getElem?_setIfInBounds_ne (by decide)).trans h7))
  have h7' : (fs.setIfInBounds (0 + 4) lg)[0 + 8]? = some (.slice p xs.length cp) := (Array.getElem?_setIfInBounds_ne (by decide)).trans h7
  refine S_region (by kernel_rfl) ?_
  replace N0 := hid (N0.out.kept (Kept.refl [] _).drew)
  replace N1 := hid (N1.out.kept (Kept.refl [] _).drew)
  replace N2 := hid (N2.out.kept (Kept.refl [] _).drew)
  replace HPV := hid (HPV.out.kept (Kept.refl [] _).drew)
  replace HMM := hid (HMM.out.kept (Kept.refl [] _).drew)
  replace HSV := hid (HSV.out.kept (Kept.refl [] _).drew)
  replace HWZ := hid (HWZ.out.kept (Kept.refl [] _).drew)
  replace HAC := hid ((AccD.still _).kept HAC.out (Kept.refl [] _).drew)
  replace HVN := hid (HVN.out.kept (Kept.refl [] _).drew)
  replace HCW := hid (HCW.out.kept (Kept.refl [] _).drew)
  replace HSG := hid (HSG.out.kept (Kept.refl [] _).drew)
  replace HLG := hid (HLG.out.kept (Kept.refl [] _).drew)
  refine E_stage 0 5 [0, 1, 2, 3, 4] (by kernel_rfl) M.drew ?_
  clear M
  simp only [List.filterMap_cons, List.filterMap_nil, List.getElem?_cons_zero, List.getElem?_cons_succ]
  ((with_reducible apply E_run); rfl; rfl; (intro w M; go_simp; (try go_ints); (try simp only [↓IntWalk.iteOmega]); (try with_reducible rfl)); simp only [Act.put, List.setIfInBounds_toArray, List.set_cons_zero, List.set_cons_succ])
  ((with_reducible apply E_run); rfl; rfl; (intro w M; go_simp; (try go_ints); (try simp only [↓IntWalk.iteOmega]); (try with_reducible rfl)); simp only [Act.put, List.setIfInBounds_toArray, List.set_cons_zero, List.set_cons_succ])
  ((with_reducible apply E_run); rfl; rfl; (intro w M; go_simp; (try go_ints); (try simp only [↓IntWalk.iteOmega]); (try with_reducible rfl)); simp only [Act.put, List.setIfInBounds_toArray, List.set_cons_zero, List.set_cons_succ])
  ((with_reducible apply E_run); rfl; rfl; (intro w M; go_simp; (try go_ints); (try simp only [↓IntWalk.iteOmega]); (try with_reducible rfl)); simp only [Act.put, List.setIfInBounds_toArray, List.set_cons_zero, List.set_cons_succ])
  ((with_reducible apply E_run (v := .agg (ha6.map n8).toArray)); rfl; rfl; (intro w M; exact run_loadX (n := 20) M.r0 rfl Salg.underlying45 rfl size45 (Nat.le_of_ble_eq_true (by kernel_rfl)) (show (frG 5 false sg vn cw nilS ha6 (ad 1) wnil).toArray.extract 12 (12 + 20) = _ by kernel_rfl)); simp only [Act.put, List.setIfInBounds_toArray, List.set_cons_zero, List.set_cons_succ])
  refine E_nil ?_
  intro wq K M
  replace N0 := hid (N0.out.kept K)
  replace N1 := hid (N1.out.kept K)
  replace N2 := hid (N2.out.kept K)
  replace HPV := hid (HPV.out.kept K)
  replace HMM := hid (HMM.out.kept K)
  replace HSV := hid (HSV.out.kept K)
  replace HWZ := hid (HWZ.out.kept K)
  replace HAC := hid ((AccD.still _).kept HAC.out K)
  replace HVN := hid (HVN.out.kept K)
  replace HCW := hid (HCW.out.kept K)
  replace HSG := hid (HSG.out.kept K)
  replace HLG := hid (HLG.out.kept K)
  clear K
  refine S_seg 5 6 (by kernel_rfl) (by decide) ?_
  simp only [List.take_succ_cons, List.take_zero, List.drop_zero, List.drop_succ_cons, Nat.sub_zero, Nat.reduceSub]
  go_wp2_with fail
  refine (warm_any c 119 _ wz la ha6 _ M.r2 (by kernel_rfl) HWZ.out ⟨rfl, small_ha6⟩ (by omega) (by decide)).mono ?_
  rintro e w26 ⟨r, wz2, rfl, K, k1, k2⟩
  rw [show (chN { E with vz := v1 } wz (.slice (some ⟨fb, 0, none⟩) 1 cap) rt).setIfInBounds 1 wz2 = (chN { E with vz := v1 } wz2 (.slice (some ⟨fb, 0, none⟩) 1 cap) rt) from by kernel_rfl] at k1
  replace N0 := hid (N0.out.keptC K M.r2 (chy_nb _ _ _ _))
  replace N1 := hid (N1.out.keptC K M.r2 (chy_nb _ _ _ _))
  replace N2 := hid (N2.out.keptC K M.r2 (chy_nb _ _ _ _))
  replace HPV := hid (HPV.out.keptC K M.r2 (chy_nb _ _ _ _))
  replace HMM := hid (HMM.out.keptC K M.r2 (chy_nb _ _ _ _))
  replace HSV := hid (HSV.out.keptC K M.r2 (by decide))
  replace HAC := hid ((AccD.still _).keptC HAC.out K M.r2 (chy_nb _ _ _ _) (.inl rfl))
  replace HVN := hid (HVN.out.keptC K M.r2 (chy_nb _ _ _ _))
  replace HCW := hid (HCW.out.keptC K M.r2 (chy_nb _ _ _ _))
  replace HSG := hid (HSG.out.keptC K M.r2 (chy_nb _ _ _ _))
  replace HLG := hid (HLG.out.keptC K M.r2 (chy_nb _ _ _ _))
  replace HWZ := hid k2
  replace M := Mem.callPut (L1 := [_, _]) M (Or.inl (by simp)) K k1
  clear K k1 k2
  simp only [List.cons_append, List.nil_append] at M
  go_wp2_with fail
  refine S_done ?_
  go_wp2_with ((with_reducible apply W_loadX (o := 12) (n := 20) (vs := (ha6.map n8).toArray)); rfl; exact M.r0; exact Salg.underlying45; rfl; exact size45; exact Nat.le_of_ble_eq_true (by kernel_rfl); exact (show (frG 5 false sg vn cw nilS ha6 (ad 1) wnil).toArray.extract 12 (12 + 20) = _ by kernel_rfl); simp only [Act.put, List.setIfInBounds_toArray, List.set_cons_zero, List.set_cons_succ])
  refine (taken_M c _ v1 (dPut ⟨ad 1, 1 + 1, da.B, da.ds⟩ false D) ha6 _ M.r2 (by kernel_rfl) HAC.out rfl HDN.out).mono ?_
  rintro e w27 ⟨rfl, K⟩
  replace N0 := hid (N0.out.kept K)
  replace N1 := hid (N1.out.kept K)
  replace N2 := hid (N2.out.kept K)
  replace HPV := hid (HPV.out.kept K)
  replace HMM := hid (HMM.out.kept K)
  replace HSV := hid (HSV.out.kept K)
  replace HWZ := hid (HWZ.out.kept K)
  replace HAC := hid ((AccD.still _).kept HAC.out K)
  replace HVN := hid (HVN.out.kept K)
  replace HCW := hid (HCW.out.kept K)
  replace HSG := hid (HSG.out.kept K)
  replace HLG := hid (HLG.out.kept K)
  replace M := M.call K
  clear K 
  go_wp2_with fail
  refine (wait_any fb 0 3 0 0 (fs.setIfInBounds (0 + 4) lg) _ nilS nilS xs _ M.r3 h7' HSV.out (nil_num _) (nil_num _) (by omega) (by omega)).mono ?_
  rintro e w29 ⟨r29, p', r6, r7, rfl, K, hr29, x1, x2, x3⟩
  replace N0 := hid (N0.out.keptC K M.r3 HNB2.out)
  replace N1 := hid (N1.out.keptC K M.r3 HNB2.out)
  replace N2 := hid (N2.out.keptC K M.r3 HNB2.out)
  replace HPV := hid (HPV.out.keptC K M.r3 HNB2.out)
  replace HMM := hid (HMM.out.keptC K M.r3 HNB2.out)
  replace HWZ := hid (HWZ.out.keptC K M.r3 (by decide))
  replace HAC := hid ((AccD.still _).keptC HAC.out K M.r3 HNB2.out (.inr rfl))
  replace HVN := hid (HVN.out.keptC K M.r3 HNB2.out)
  replace HCW := hid (HCW.out.keptC K M.r3 HNB2.out)
  replace HSG := hid (HSG.out.keptC K M.r3 HNB2.out)
  replace HLG := hid (HLG.out.keptC K M.r3 HNB2.out)
  replace HSV := hid x1
  have HR7 := hid x3
  have hr61 := x2.one
  replace M := Mem.callPut (L1 := [_, _, _]) M (Or.inl (by simp)) K hr29
  clear x1 x2 x3 K hr29
  simp only [List.cons_append, List.nil_append] at M
  obtain ⟨fs2, hfs2⟩ : ∃ fs2, fs2 = (((fs.setIfInBounds (0 + 4) lg).setIfInBounds (0 + 8) (.slice p' (xs.length - 3) (xs.length - 3))).setIfInBounds (0 + 6) r6).setIfInBounds (0 + 7) r7 := ⟨_, rfl⟩
  rw [← hfs2] at M
  have HFS2 := hid hfs2
  clear hfs2
  have hs2 : fs2.size = cap * 60 := by rw [HFS2.out]; simp only [Array.size_setIfInBounds]; exact hz
  have HNB3 := hid (not_bytes_at (tc := 142) (cs := fs2) (i := 0 + 8) (p := p') (n := xs.length - 3) (m := xs.length - 3) (by rw [HFS2.out, Array.getElem?_setIfInBounds_ne (by decide), Array.getElem?_setIfInBounds_ne (by decide), Array.getElem?_setIfInBounds_self_of_lt (by simp; omega)]))
  go_wp2_with ((with_reducible apply W_loadAll); rfl; exact M.r0; exact Salg.underlying142; rfl; exact (by kernel_rfl); simp only [Act.put, List.setIfInBounds_toArray, List.set_cons_zero, List.set_cons_succ])
  obtain ⟨EE, hEE⟩ : ∃ EE : XEnv, EE = { E with vz := v1 } := ⟨_, rfl⟩
  have HC := hid (show ChY w29 c { E with vz := v1 } (.slice (some ⟨fb, 0, none⟩) 1 cap) rt (adWith la ha6) from ⟨wz2, M.r2, HWZ.out⟩)
  have HA2 := hid (show AccD (dPut ⟨ad 1, 1 + 1, da.B, da.ds⟩ false D) w29 (XEnv.vz { E with vz := v1 }) from HAC.out)
  rw [← hEE] at HC HA2
  have hmd2 : EE.md = nilS := by rw [hEE]; exact hmd
  have HEE := hid hEE
  have HROW := hid M.r3
  have HMK := hid M.kept
  have HXE : Hid (Hard [c] w29) := hard1 M.r2 (.inl rfl) (chy_nb _ _ _ _)
  clear hEE HAC HWZ M
  refine (enterC1 c fb cap 5 1 ha6 false fs2 _ EE rt sg vn cw nilS (AccD (dPut ⟨ha6, 1, 0, []⟩ false (dPut ⟨ad 1, 1 + 1, da.B, da.ds⟩ false D))) _ HC.out (AccD.still _) HROW.out HNB3.out hs2 hcap hc1 hsg1 hvn1 hcw1 rfl (by decide) (fun w => creates_five w) rfl small_ha6 hmd2 (AccD (dPut ⟨ha6, 1, 0, []⟩ false (dPut ⟨ad 1, 1 + 1, da.B, da.ds⟩ false D))) (AccD.still _) (fun w' K' => clone_D c EE _ rt _ [] (dPut ⟨ad 1, 1 + 1, da.B, da.ds⟩ false D) w' (HC.out.kept K') ((AccD.still _).kept HA2.out K') h01 (by omega) (adWith_pos _ _) (Nat.le_trans (adWith_len _ _) (by omega)) (.inl hmd2)) (fun w' n1 K' hn1 => setNonce_Y c EE _ rt n1 _ (dPut ⟨ad 1, 1 + 1, da.B, da.ds⟩ false D) ha6 w' (HC.out.kept K') ((AccD.still _).kept HA2.out K') rfl small_ha6 hn1 HDN.out (by omega)) (fun w' vz1 md K' hC' hA' => (move_Z c 0 (ad 1) ha6 _ _ rt vn _ (dPut ⟨ha6, 1, 0, []⟩ false (dPut ⟨ad 1, 1 + 1, da.B, da.ds⟩ false D)) ds0 w' hC' hA' rfl rfl (ad_small (by decide)) small_ha6 HDS.out hsB (Nat.zero_le _) (HV0.out ▸ HVN.out.keptN K' HXE.out) rfl).mono fun e w'' ⟨r, he, K3⟩ => ⟨r, vz1, he, hC'.kept K3, (AccD.still _).kept hA' K3, K3.mono (by simp)⟩)).mono ?_
  rintro e w30 ⟨r30, fb', cap', cur, a0, a1, a3, a6, vz, md, rfl, y0, y1, y2, y3, y4, y5, y6, y6b, y6c, y7a, y7b, y7c, y7d, y8, yk⟩
  have hX : Hard [c, fb] w29 := by
    obtain ⟨wz, c1, _⟩ := HC.out
    intro x hx
    simp only [List.mem_cons, List.mem_singleton, List.not_mem_nil, or_false] at hx
    rcases hx with rfl | rfl
    · exact ⟨_, 119, c1, .inl rfl, chy_nb _ _ _ _⟩
    · exact ⟨_, 142, HROW.out, .inr rfl, HNB3.out⟩
  have Y1 := hid y1
  have Y2 := hid y2
  have Y4 := hid y4
  have Y5 := hid y5
  have Y8 := hid y8
  have YK := hid yk
  have HHX := hid hX
  clear y1 y2 y4 y5 y8 yk hX HC HA2
  go_wp2_with fail
  go_end0
  have e2 : ∀ k, k ≠ 0 + 4 → k ≠ 0 + 6 → k ≠ 0 + 7 → k ≠ 0 + 8 → fs2[k]? = fs[k]? := by
    intro k k4 k6 k7 k8
    rw [HFS2.out, Array.getElem?_setIfInBounds_ne (by omega), Array.getElem?_setIfInBounds_ne (by omega), Array.getElem?_setIfInBounds_ne (by omega), Array.getElem?_setIfInBounds_ne (by omega)]
  have hX := HHX.out
  have hnl : xs.length - 3 = 0 := by omega
  have HSV0 : RowV w30 89 (.slice p' (xs.length - 3) (xs.length - 3)) [] := by
    have := HSV.out.keptN YK.out hX
    rw [hnl, List.take_zero] at this
    rw [hnl]
    exact this
  have hE := HEE.out
  have HF1 := Y1.out
  rw [hE] at HF1
  refine ⟨_, fb', cap', cur, pv, lg, .slice p' (xs.length - 3) (xs.length - 3), r7, cw, sg, vn, a0, a1, a3, a6, vz, md, rfl, y0, HF1, Y2.out, y3.imp id (fun h => Nat.le_trans HMK.out.size h), ?_, ?_, ?_, ?_, ?_, ?_, ⟨r6, ?_, hr61⟩, ⟨HPV.out.keptN YK.out hX, HLG.out.keptN YK.out hX, HSV0, ⟨rfl, fun k v n i1 => by simp at i1⟩⟩, HR7.out.keptN YK.out hX, Y5.out, HSG.out.keptN YK.out hX, HCW.out.keptN YK.out hX, HVN.out.keptN YK.out hX, y6, y6b, y6c, ⟨y7a, y7b, y7c, y7d⟩, Y8.out, HMK.out.trans YK.out⟩
  · intro k k60 k3 k4 k6 k7 k8 k9
    rw [Y4.out k k60, e2 k (by omega) (by omega) (by omega) (by omega)]
    exact HX2.out k (by omega) (by omega) (by omega) (by omega)
  · rw [Y4.out (0 + 3) (by decide), e2 (0 + 3) (by decide) (by decide) (by decide) (by decide)]
    exact h3
  · rw [Y4.out (0 + 4) (by decide), HFS2.out, Array.getElem?_setIfInBounds_ne (by decide), Array.getElem?_setIfInBounds_ne (by decide), Array.getElem?_setIfInBounds_ne (by decide), Array.getElem?_setIfInBounds_self_of_lt z4]
  · rw [Y4.out (0 + 7) (by decide), HFS2.out, Array.getElem?_setIfInBounds_self_of_lt (by simp; omega)]
  · rw [Y4.out (0 + 8) (by decide), HFS2.out, Array.getElem?_setIfInBounds_ne (by decide), Array.getElem?_setIfInBounds_ne (by decide), Array.getElem?_setIfInBounds_self_of_lt (by simp; omega)]
  · rw [Y4.out (0 + 9) (by decide), e2 (0 + 9) (by decide) (by decide) (by decide) (by decide)]
    exact h9m
  · rw [Y4.out (0 + 6) (by decide), HFS2.out, Array.getElem?_setIfInBounds_ne (by decide), Array.getElem?_setIfInBounds_self_of_lt (by simp; omega)]

set_option maxHeartbeats 4000000 in
set_option maxRecDepth 100000 in
theorem enterCreate_v (c fb cap m G V : Nat) (E : XEnv) (fs0 : Array Value) (mv rt : Value) (mem : List Nat) (la : List (List Nat)) (D : List AD) (da ds0 d2 : AD) (w : World) (hC : ChY w c E (.slice (some ⟨fb, 0, none⟩) 1 cap) rt la) (hA : AccD D w E.vz) (hF : FrameQ w fb 0 fs0 m G [19, 13, V] mv) (hmem : NatV w mv mem) (hml : mem.length ≤ 1000) (hcut : cutB mem 13 19 = probeL) (hse : fs0.extract (0 + 12) (0 + 12 + 20) = ((ad 1).map n8).toArray) (hda : D.find? (fun x => x.adr == ad 1) = some da) (hN1' : da.N = 1) (hB : da.B < 256 ^ 100) (hVB : V ≤ da.B) (hG : G < 1000000) (hm1 : m ≤ 900) (hdn : (dPut ⟨ad 1, 1 + 1, da.B, da.ds⟩ false D).find? (fun x => x.adr == ha6) = none) (hds : (dPut ⟨ha6, 1, 0, []⟩ false (dPut ⟨ad 1, 1 + 1, da.B, da.ds⟩ false D)).find? (fun x => x.adr == ad 1) = some ds0) (hsB : ds0.B < 256 ^ 100) (hsV : V ≤ ds0.B) (hl0 : 0 < D.length) (hl : D.length ≤ 15) (hl1 : (dPut ⟨ad 1, 1 + 1, da.B, da.ds⟩ false D).length ≤ 15) (h01 : 0 < (dPut ⟨ad 1, 1 + 1, da.B, da.ds⟩ false D).length) (hlN : (dPut ⟨ha6, 1, 0, []⟩ false (dPut ⟨ad 1, 1 + 1, da.B, da.ds⟩ false D)).length ≤ 15) (hla : la.length ≤ 15) (hmd : E.md = nilS) (hsz : fs0.size = cap * 60) (hcap : cap ≤ maxLen) (hc1 : 1 ≤ cap) (hV0 : V ≠ 0) (hN1 : ds0.N ≠ 0) (hN2 : d2.N ≠ 0) (hd2 : (dPut ⟨ad 1, ds0.N, ds0.B - V, ds0.ds⟩ false (dPut ⟨ha6, 1, 0, []⟩ false (dPut ⟨ad 1, 1 + 1, da.B, da.ds⟩ false D))).find? (fun x => x.adr == ha6) = some d2) (hB2 : d2.B < 256 ^ 100) (hll1 : (dPut ⟨ad 1, ds0.N, ds0.B - V, ds0.ds⟩ false (dPut ⟨ha6, 1, 0, []⟩ false (dPut ⟨ad 1, 1 + 1, da.B, da.ds⟩ false D))).length ≤ 100) :
    Calls Salg.prog 193 #[.pointer (some ⟨c, 0, none⟩), .pointer (some ⟨fb, 0, none⟩), .int .u8 240] w fun e w' => ∃ (r : Value) (fb' cap' : Nat) (cur : Array Value) (pv gv sv r7 cw sg vn a0 a1 a3 a6 vz' md : Value), e = .returned r ∧ md.oneCell' = true ∧ ChY w' c { E with vz := vz', md := md } (.slice (some ⟨fb', 0, none⟩) 2 cap') nilS (adWith la ha6) ∧ w'.heap[fb']? = some (.cells cur 142 (0, 0)) ∧ (fb' = fb ∨ w.heap.size ≤ fb') ∧ (∀ k, k < 60 → k ≠ 3 → k ≠ 4 → k ≠ 6 → k ≠ 7 → k ≠ 8 → k ≠ 9 → cur[k]? = fs0[k]?) ∧ cur[0 + 3]? = some pv ∧ cur[0 + 4]? = some gv ∧ cur[0 + 7]? = some r7 ∧ cur[0 + 8]? = some sv ∧ cur[0 + 9]? = some mv ∧ (∃ r6 : Value, cur[0 + 6]? = some r6 ∧ r6.oneCell' = true) ∧ PartsV w' pv gv sv [] m (G - min G (G - G / 64)) [] ∧ NumV w' r7 0 ∧ (∀ k, k < 60 → cur[60 + k]? = (frG 5 false sg vn cw nilS ha6 (ad 1) (wrow5 a0 a1 a3 a6))[k]?) ∧ NumV w' sg (min G (G - G / 64)) ∧ NatV w' cw probeL ∧ NumV w' vn V ∧ cur.size = cap' * 60 ∧ cap' ≤ maxLen ∧ 2 ≤ cap' ∧ (a0.oneCell' = true ∧ a1.oneCell' = true ∧ a3.oneCell' = true ∧ a6.oneCell' = true) ∧ AccD (dPut ⟨ha6, d2.N, d2.B + V, d2.ds⟩ false (dPut ⟨ad 1, ds0.N, ds0.B - V, ds0.ds⟩ false (dPut ⟨ha6, 1, 0, []⟩ false (dPut ⟨ad 1, 1 + 1, da.B, da.ds⟩ false D)))) w' vz' ∧ Kept [c, fb] w w' := by
  obtain ⟨fs, pv, gv, sv, xs, hr, h0, h2, h3, h4, h5, h6, h7, h8, h9, h9m⟩ := hF
  have hxl : xs.length = 3 := by have := h9.1; simpa using this
  obtain ⟨u0, hu0⟩ : ∃ u, xs[xs.length - 1 - 0]? = some u := ⟨_, List.getElem?_eq_getElem (by omega)⟩
  obtain ⟨u1, hu1⟩ : ∃ u, xs[xs.length - 1 - 1]? = some u := ⟨_, List.getElem?_eq_getElem (by omega)⟩
  obtain ⟨u2, hu2⟩ : ∃ u, xs[xs.length - 1 - 2]? = some u := ⟨_, List.getElem?_eq_getElem (by omega)⟩
  have N0 : Hid (NumV w u0 V) := h9.2 _ _ _ hu0 (by rw [hxl]; rfl)
  have N1 : Hid (NumV w u1 13) := h9.2 _ _ _ hu1 (by rw [hxl]; rfl)
  have N2 : Hid (NumV w u2 19) := h9.2 _ _ _ hu2 (by rw [hxl]; rfl)
  obtain ⟨p, cp, rfl⟩ : ∃ p cap, sv = .slice p xs.length cap := by
    rcases h8 with ⟨rfl, rfl⟩ | ⟨g, cap, cur, rfl, _⟩
    · exact ⟨none, 0, rfl⟩
    · exact ⟨_, _, rfl⟩
  have HNB := hid (not_bytes_at (tc := 142) h7)
  have HPV := hid h4
  have HGV := hid h6
  have HSV := hid h8
  have HMM := hid hmem
  obtain ⟨wz, c1, c2⟩ := hC
  have HWZ := hid c2
  have HAC := hid hA
  have hz : fs.size = cap * 60 := h0.trans hsz
  have HSE : Hid (fs.extract (0 + 12) (0 + 12 + 20) = ((ad 1).map n8).toArray) := by
    have e := ext_same20 (a := 0 + 12) (fs1 := fs) (fs0 := fs0) (by omega) (by omega) fun k k1 k2 => h2 k (by omega) (by omega) (by omega) (by omega)
    exact e.trans hse
  have HX2 := hid h2
  have HDA := hid hda
  have HDN := hid hdn
  have HDS := hid hds
  have HV0 := hid hV0
  have HN1 := hid hN1
  have HN2 := hid hN2
  have HD2 := hid hd2
  have HN1' := hid hN1'
  have HCUT := hid hcut
  have hfc : fb ≠ c := by
    intro h
    subst h
    rw [hr] at c1
    injection c1 with c1
    injection c1 with _ c1 _
    exact absurd c1 (by decide)
  have hfl := lt_of_row hr
  have hcl := lt_of_row c1
  have z4 : 0 + 4 < fs.size := by omega
  have hdc : decide (cmpI da.B V < 0) = false := by
    unfold cmpI
    rw [if_neg (by omega)]
    split <;> rfl
  have HDC := hid hdc
  have BN0 := hid N0.out
  have BN1 := hid N1.out
  have BN2 := hid N2.out
  have BHPV := hid HPV.out
  have BHGV := hid HGV.out
  have BHMM := hid HMM.out
  have BHSV := hid HSV.out
  have BHWZ := hid HWZ.out
  have BHAC := hid HAC.out
  have HH : Hid (Hard [c, fb] w) := by
    intro x hx
    simp only [List.mem_cons, List.mem_singleton, List.not_mem_nil, or_false] at hx
    rcases hx with rfl | rfl
    · exact ⟨_, 119, c1, .inl rfl, chy_nb _ _ _ _⟩
    · exact ⟨_, 142, hr, .inr rfl, HNB.out⟩
  have M : Mem w [c, fb] [(c, .cells (chN E wz (.slice (some ⟨fb, 0, none⟩) 1 cap) rt) 119 (0, 0)), (fb, .cells fs 142 (0, 0))] w := ((Mem.start w [c, fb]).add hr (by simp)).add c1 (by simpa using hfc.symm)
  clear h2 h4 h6 h8 h9 hA hmem c1 c2 hr hse h0 hda hdn hds hdc hV0 hN1' hcut hd2 hN1 hN2
  go_enter Salg.func193, Salg.ntmps193
  go_wp2_with fail
  refine (arity_create _).mono ?_
  rintro e w1 ⟨rfl, hw⟩
  replace hw := hw.symm
  subst hw
  go_wp2_with fail
  refine (arg_q fb 0 fs _ u0 xs 0 _ M.r1 h7 HSV.out (by omega) hu0 (by omega)).mono ?_
  rintro e w2 ⟨rfl, K⟩
  replace N0 := hid (N0.out.kept K)
  replace N1 := hid (N1.out.kept K)
  replace N2 := hid (N2.out.kept K)
  replace HPV := hid (HPV.out.kept K)
  replace HGV := hid (HGV.out.kept K)
  replace HMM := hid (HMM.out.kept K)
  replace HSV := hid (HSV.out.kept K)
  replace HWZ := hid (HWZ.out.kept K)
  replace HAC := hid ((AccD.still _).kept HAC.out K)
  replace M := M.call K
  clear K 
  go_wp2_with fail
  refine S_region (by kernel_rfl) ?_
  replace N0 := hid (N0.out.kept (Kept.refl [] _).drew)
  replace N1 := hid (N1.out.kept (Kept.refl [] _).drew)
  replace N2 := hid (N2.out.kept (Kept.refl [] _).drew)
  replace HPV := hid (HPV.out.kept (Kept.refl [] _).drew)
  replace HGV := hid (HGV.out.kept (Kept.refl [] _).drew)
  replace HMM := hid (HMM.out.kept (Kept.refl [] _).drew)
  replace HSV := hid (HSV.out.kept (Kept.refl [] _).drew)
  replace HWZ := hid (HWZ.out.kept (Kept.refl [] _).drew)
  replace HAC := hid ((AccD.still _).kept HAC.out (Kept.refl [] _).drew)
  refine E_float 0 9 [0, 1, 2, 3, 4, 5, 6, 7] 8 10 _ (by kernel_rfl) ⟨⟨_, _, _, _, _, rfl, zero128, rfl⟩⟩ (by intro x hx; simp only [List.mem_cons, List.mem_singleton, List.not_mem_nil, or_false] at hx; rcases hx with rfl | rfl <;> assumption) M.drew ?_
  clear M
  simp only [List.filterMap_cons, List.filterMap_nil, List.getElem?_cons_zero, List.getElem?_cons_succ]
  ((with_reducible apply E_run); rfl; rfl; (intro w M; go_simp; (try go_ints); (try simp only [↓IntWalk.iteOmega]); (try with_reducible rfl)); simp only [Act.put, List.setIfInBounds_toArray, List.set_cons_zero, List.set_cons_succ])
  ((with_reducible apply E_run); rfl; rfl; (intro w M; go_simp; (try go_ints); (try simp only [↓IntWalk.iteOmega]); (try with_reducible rfl)); simp only [Act.put, List.setIfInBounds_toArray, List.set_cons_zero, List.set_cons_succ])
  ((with_reducible apply E_run); rfl; rfl; (intro w M; go_simp; (try go_ints); (try simp only [↓IntWalk.iteOmega]); (try with_reducible rfl)); simp only [Act.put, List.setIfInBounds_toArray, List.set_cons_zero, List.set_cons_succ])
  ((with_reducible apply E_run); rfl; rfl; (intro w M; go_simp; (try go_ints); (try simp only [↓IntWalk.iteOmega]); (try with_reducible rfl)); simp only [Act.put, List.setIfInBounds_toArray, List.set_cons_zero, List.set_cons_succ])
  ((with_reducible apply E_run); rfl; rfl; (intro w M; go_simp; (try go_ints); (try simp only [↓IntWalk.iteOmega]); (try with_reducible rfl)); simp only [Act.put, List.setIfInBounds_toArray, List.set_cons_zero, List.set_cons_succ])
  ((with_reducible apply E_run); rfl; rfl; (intro w M; go_simp; (try go_ints); (try simp only [↓IntWalk.iteOmega]); (try with_reducible rfl)); simp only [Act.put, List.setIfInBounds_toArray, List.set_cons_zero, List.set_cons_succ])
  ((with_reducible apply E_run (v := .agg ((ad 1).map n8).toArray)); rfl; rfl; (intro w M; exact run_loadX (n := 20) M.r1 rfl Salg.underlying45 rfl size45 (by omega) HSE.out); simp only [Act.put, List.setIfInBounds_toArray, List.set_cons_zero, List.set_cons_succ])
  refine E_call rfl Salg.func85 (by kernel_rfl) (by kernel_rfl) (args := [.pointer (some ⟨c, 0, none⟩), A8 (ad 1)]) rfl ?_
  intro w1 K M
  replace N0 := hid (N0.out.kept K)
  replace N1 := hid (N1.out.kept K)
  replace N2 := hid (N2.out.kept K)
  replace HPV := hid (HPV.out.kept K)
  replace HGV := hid (HGV.out.kept K)
  replace HMM := hid (HMM.out.kept K)
  replace HSV := hid (HSV.out.kept K)
  replace HWZ := hid (HWZ.out.kept K)
  replace HAC := hid ((AccD.still _).kept HAC.out K)
  clear K
  refine (account_D c 119 _ E.vz D da (ad 1) _ M.r0 (chN_get _ _ _ _ (by decide)) HAC.out rfl HDA.out).mono ?_
  rintro e w3 ⟨nva, bva, cua, rfl, xHNA, xHBA, xHCA, K⟩
  replace N0 := hid (N0.out.kept K)
  replace N1 := hid (N1.out.kept K)
  replace N2 := hid (N2.out.kept K)
  replace HPV := hid (HPV.out.kept K)
  replace HGV := hid (HGV.out.kept K)
  replace HMM := hid (HMM.out.kept K)
  replace HSV := hid (HSV.out.kept K)
  replace HWZ := hid (HWZ.out.kept K)
  replace HAC := hid ((AccD.still _).kept HAC.out K)
  have HNA := hid xHNA
  have HBA := hid xHBA
  have HCA := hid xHCA
  replace M := M.call K
  refine ⟨_, rfl, K.mono (by simp), M, ?_⟩
  clear K xHNA xHBA xHCA
  simp only [Act.put, List.setIfInBounds_toArray, List.set_cons_zero, List.set_cons_succ]
  refine E_nil ?_
  intro w4 K M
  replace N0 := hid (N0.out.kept K)
  replace N1 := hid (N1.out.kept K)
  replace N2 := hid (N2.out.kept K)
  replace HPV := hid (HPV.out.kept K)
  replace HGV := hid (HGV.out.kept K)
  replace HMM := hid (HMM.out.kept K)
  replace HSV := hid (HSV.out.kept K)
  replace HWZ := hid (HWZ.out.kept K)
  replace HAC := hid ((AccD.still _).kept HAC.out K)
  replace HNA := hid (HNA.out.kept K)
  replace HBA := hid (HBA.out.kept K)
  replace HCA := hid (HCA.out.kept K)
  clear K
  intro t10 w5 K ht10 M
  replace N0 := hid (N0.out.kept K)
  replace N1 := hid (N1.out.kept K)
  replace N2 := hid (N2.out.kept K)
  replace HPV := hid (HPV.out.kept K)
  replace HGV := hid (HGV.out.kept K)
  replace HMM := hid (HMM.out.kept K)
  replace HSV := hid (HSV.out.kept K)
  replace HWZ := hid (HWZ.out.kept K)
  replace HAC := hid ((AccD.still _).kept HAC.out K)
  replace HNA := hid (HNA.out.kept K)
  replace HBA := hid (HBA.out.kept K)
  replace HCA := hid (HCA.out.kept K)
  clear K
  simp only [Act.put, List.setIfInBounds_toArray, List.set_cons_zero, List.set_cons_succ]
  refine S_seg 9 10 (by kernel_rfl) (by decide) ?_
  simp only [List.take_succ_cons, List.take_zero, List.drop_zero, List.drop_succ_cons, Nat.sub_zero, Nat.reduceSub]
  have HON1 : Hid (∀ u ∈ (⟨ad 1, [nva, bva, cua, nilS]⟩ : Ac).cells.toArray.toList, u.oneCell' = true) := one_list (by
    have e : ((⟨ad 1, [nva, bva, cua, nilS]⟩ : Ac).cells.toArray.toList.all fun u => u.oneCell') = (nva.oneCell' && (bva.oneCell' && (cua.oneCell' && true))) := by kernel_rfl
    rw [e, HNA.out.one, HBA.out.one, HCA.out.one]
    rfl)
  go_wp2_with ((with_reducible apply W_storeK (b := t10) (vs := (⟨ad 1, [nva, bva, cua, nilS]⟩ : Ac).cells.toArray)); rfl; rfl; exact M.r0; exact size128; rfl; exact HON1.out; intro w6 K hr3; replace HNA := hid (HNA.out.keptC K M.r0 (not_bytes_at (i := 20) (p := none) (n := 0) (m := 0) (by kernel_rfl))); replace HBA := hid (HBA.out.keptC K M.r0 (not_bytes_at (i := 20) (p := none) (n := 0) (m := 0) (by kernel_rfl))); replace M := Mem.callPut (L1 := []) M (Or.inr ht10) K hr3; clear K hr3; simp only [List.nil_append] at M)
  clear HCA
  rw [HN1'.out] at HNA
  replace N0 := hid (BN0.out.keptN M.kept HH.out)
  replace N1 := hid (BN1.out.keptN M.kept HH.out)
  replace N2 := hid (BN2.out.keptN M.kept HH.out)
  replace HPV := hid (BHPV.out.keptN M.kept HH.out)
  replace HGV := hid (BHGV.out.keptN M.kept HH.out)
  replace HMM := hid (BHMM.out.keptN M.kept HH.out)
  replace HSV := hid (BHSV.out.keptN M.kept HH.out)
  replace HWZ := hid (AdsV.keptN' BHWZ.out M.kept HH.out)
  replace HAC := hid ((AccD.still D) _ _ _ _ BHAC.out M.kept HH.out)
  clear BN0 BN1 BN2 BHPV BHGV BHMM BHSV BHWZ BHAC
  refine S_done ?_
  go_wp2_with fail
  refine S_region (by kernel_rfl) ?_
  replace N0 := hid (N0.out.kept (Kept.refl [] _).drew)
  replace N1 := hid (N1.out.kept (Kept.refl [] _).drew)
  replace N2 := hid (N2.out.kept (Kept.refl [] _).drew)
  replace HPV := hid (HPV.out.kept (Kept.refl [] _).drew)
  replace HGV := hid (HGV.out.kept (Kept.refl [] _).drew)
  replace HMM := hid (HMM.out.kept (Kept.refl [] _).drew)
  replace HSV := hid (HSV.out.kept (Kept.refl [] _).drew)
  replace HWZ := hid (HWZ.out.kept (Kept.refl [] _).drew)
  replace HAC := hid ((AccD.still _).kept HAC.out (Kept.refl [] _).drew)
  replace HNA := hid (HNA.out.kept (Kept.refl [] _).drew)
  replace HBA := hid (HBA.out.kept (Kept.refl [] _).drew)
  refine E_stage 0 21 [0, 1, 2, 3, 4, 5, 6, 7, 8, 9, 10, 11, 12, 13, 14, 15, 16, 17, 18, 19, 20] (by kernel_rfl) M.drew ?_
  clear M
  simp only [List.filterMap_cons, List.filterMap_nil, List.getElem?_cons_zero, List.getElem?_cons_succ]
  ((with_reducible apply E_run); rfl; rfl; (intro w M; go_simp; (try go_ints); (try simp only [↓IntWalk.iteOmega]); (try with_reducible rfl)); simp only [Act.put, List.setIfInBounds_toArray, List.set_cons_zero, List.set_cons_succ])
  ((with_reducible apply E_run); rfl; rfl; (intro w M; go_simp; (try go_ints); (try simp only [↓IntWalk.iteOmega]); (try with_reducible rfl)); simp only [Act.put, List.setIfInBounds_toArray, List.set_cons_zero, List.set_cons_succ])
  ((with_reducible apply E_run); rfl; rfl; (intro w M; go_simp; (try go_ints); (try simp only [↓IntWalk.iteOmega]); (try with_reducible rfl)); simp only [Act.put, List.setIfInBounds_toArray, List.set_cons_zero, List.set_cons_succ])
  ((with_reducible apply E_run); rfl; rfl; (intro w M; exact run_loadCell (M.r1) rfl (show (chN E wz (.slice (some ⟨fb, 0, none⟩) 1 cap) rt)[9]? = some (.slice (some ⟨fb, 0, none⟩) 1 cap) by kernel_rfl) Salg.underlying115 rfl); simp only [Act.put, List.setIfInBounds_toArray, List.set_cons_zero, List.set_cons_succ])
  ((with_reducible apply E_run); rfl; rfl; (intro w M; go_simp; (try go_ints); (try simp only [↓IntWalk.iteOmega]); (try with_reducible rfl)); simp only [Act.put, List.setIfInBounds_toArray, List.set_cons_zero, List.set_cons_succ])
  ((with_reducible apply E_run); rfl; rfl; (intro w M; go_simp; (try go_ints); (try simp only [↓IntWalk.iteOmega]); (try with_reducible rfl)); simp only [Act.put, List.setIfInBounds_toArray, List.set_cons_zero, List.set_cons_succ])
  ((with_reducible apply E_run); rfl; rfl; (intro w M; go_simp; (try go_ints); (try simp only [↓IntWalk.iteOmega]); (try with_reducible rfl)); simp only [Act.put, List.setIfInBounds_toArray, List.set_cons_zero, List.set_cons_succ])
  ((with_reducible apply E_run); rfl; rfl; (intro w M; go_simp; (try go_ints); (try simp only [↓IntWalk.iteOmega]); (try with_reducible rfl)); simp only [Act.put, List.setIfInBounds_toArray, List.set_cons_zero, List.set_cons_succ])
  ((with_reducible apply E_run); rfl; rfl; (intro w M; go_simp; (try go_ints); (try simp only [↓IntWalk.iteOmega]); (try with_reducible rfl)); simp only [Act.put, List.setIfInBounds_toArray, List.set_cons_zero, List.set_cons_succ])
  ((with_reducible apply E_run); rfl; rfl; (intro w M; exact run_loadCell (M.r0) rfl (show (⟨ad 1, [nva, bva, cua, nilS]⟩ : Ac).cells.toArray[21]? = some bva by kernel_rfl) Salg.underlying89 rfl); simp only [Act.put, List.setIfInBounds_toArray, List.set_cons_zero, List.set_cons_succ])
  ((with_reducible apply E_run); rfl; rfl; (intro w M; go_simp; (try go_ints); (try simp only [↓IntWalk.iteOmega]); (try with_reducible rfl)); simp only [Act.put, List.setIfInBounds_toArray, List.set_cons_zero, List.set_cons_succ])
  refine E_call rfl Salg.func72 (by kernel_rfl) (by kernel_rfl) (args := [bva, u0]) rfl ?_
  intro w1 K M
  replace N0 := hid (N0.out.kept K)
  replace N1 := hid (N1.out.kept K)
  replace N2 := hid (N2.out.kept K)
  replace HPV := hid (HPV.out.kept K)
  replace HGV := hid (HGV.out.kept K)
  replace HMM := hid (HMM.out.kept K)
  replace HSV := hid (HSV.out.kept K)
  replace HWZ := hid (HWZ.out.kept K)
  replace HAC := hid ((AccD.still _).kept HAC.out K)
  replace HNA := hid (HNA.out.kept K)
  replace HBA := hid (HBA.out.kept K)
  clear K
  refine (cmp_num bva u0 da.B V _ HBA.out N0.out).mono ?_
  rintro e w7 ⟨rfl, K⟩
  replace N0 := hid (N0.out.kept K)
  replace N1 := hid (N1.out.kept K)
  replace N2 := hid (N2.out.kept K)
  replace HPV := hid (HPV.out.kept K)
  replace HGV := hid (HGV.out.kept K)
  replace HMM := hid (HMM.out.kept K)
  replace HSV := hid (HSV.out.kept K)
  replace HWZ := hid (HWZ.out.kept K)
  replace HAC := hid ((AccD.still _).kept HAC.out K)
  replace HNA := hid (HNA.out.kept K)
  replace HBA := hid (HBA.out.kept K)
  replace M := M.call K
  refine ⟨_, rfl, trivial, M, ?_⟩
  clear K 
  simp only [Act.put, List.setIfInBounds_toArray, List.set_cons_zero, List.set_cons_succ]
  ((with_reducible apply E_run (v := .bool (decide (cmpI da.B V < 0)))); rfl; rfl; (intro w M; go_simp; (try go_ints); (try with_reducible rfl)); simp only [Act.put, List.setIfInBounds_toArray, List.set_cons_zero, List.set_cons_succ])
  rw [HDC.out]
  ((with_reducible apply E_run); rfl; rfl; (intro w M; go_simp; (try go_ints); (try simp only [↓IntWalk.iteOmega]); (try with_reducible rfl)); simp only [Act.put, List.setIfInBounds_toArray, List.set_cons_zero, List.set_cons_succ])
  ((with_reducible apply E_run); rfl; rfl; (intro w M; go_simp; (try go_ints); (try simp only [↓IntWalk.iteOmega]); (try with_reducible rfl)); simp only [Act.put, List.setIfInBounds_toArray, List.set_cons_zero, List.set_cons_succ])
  ((with_reducible apply E_run); rfl; rfl; (intro w M; go_simp; (try go_ints); (try simp only [↓IntWalk.iteOmega]); (try with_reducible rfl)); simp only [Act.put, List.setIfInBounds_toArray, List.set_cons_zero, List.set_cons_succ])
  ((with_reducible apply E_run); rfl; rfl; (intro w M; exact run_loadCell (M.r0) rfl (show (⟨ad 1, [nva, bva, cua, nilS]⟩ : Ac).cells.toArray[20]? = some nva by kernel_rfl) Salg.underlying89 rfl); simp only [Act.put, List.setIfInBounds_toArray, List.set_cons_zero, List.set_cons_succ])
  refine E_call rfl Salg.func87 (by kernel_rfl) (by kernel_rfl) (args := [.int .u64 18446744073709551615]) rfl ?_
  intro w1 K M
  replace N0 := hid (N0.out.kept K)
  replace N1 := hid (N1.out.kept K)
  replace N2 := hid (N2.out.kept K)
  replace HPV := hid (HPV.out.kept K)
  replace HGV := hid (HGV.out.kept K)
  replace HMM := hid (HMM.out.kept K)
  replace HSV := hid (HSV.out.kept K)
  replace HWZ := hid (HWZ.out.kept K)
  replace HAC := hid ((AccD.still _).kept HAC.out K)
  replace HNA := hid (HNA.out.kept K)
  replace HBA := hid (HBA.out.kept K)
  clear K
  refine (num_int _ 18446744073709551615 rfl (by decide) _).mono ?_
  rintro e w8 ⟨nm, rfl, xHNM, K⟩
  replace N0 := hid (N0.out.kept K)
  replace N1 := hid (N1.out.kept K)
  replace N2 := hid (N2.out.kept K)
  replace HPV := hid (HPV.out.kept K)
  replace HGV := hid (HGV.out.kept K)
  replace HMM := hid (HMM.out.kept K)
  replace HSV := hid (HSV.out.kept K)
  replace HWZ := hid (HWZ.out.kept K)
  replace HAC := hid ((AccD.still _).kept HAC.out K)
  replace HNA := hid (HNA.out.kept K)
  replace HBA := hid (HBA.out.kept K)
  have HNM := hid xHNM
  replace M := M.call K
  refine ⟨_, rfl, trivial, M, ?_⟩
  clear K xHNM
  simp only [Act.put, List.setIfInBounds_toArray, List.set_cons_zero, List.set_cons_succ]
  refine E_call rfl Salg.func72 (by kernel_rfl) (by kernel_rfl) (args := [nva, nm]) rfl ?_
  intro w1 K M
  replace N0 := hid (N0.out.kept K)
  replace N1 := hid (N1.out.kept K)
  replace N2 := hid (N2.out.kept K)
  replace HPV := hid (HPV.out.kept K)
  replace HGV := hid (HGV.out.kept K)
  replace HMM := hid (HMM.out.kept K)
  replace HSV := hid (HSV.out.kept K)
  replace HWZ := hid (HWZ.out.kept K)
  replace HAC := hid ((AccD.still _).kept HAC.out K)
  replace HNA := hid (HNA.out.kept K)
  replace HBA := hid (HBA.out.kept K)
  replace HNM := hid (HNM.out.kept K)
  clear K
  refine (cmp_lit nva nm 1 18446744073709551615 (-1) (by decide) _ HNA.out HNM.out).mono ?_
  rintro e w9 ⟨rfl, K⟩
  replace N0 := hid (N0.out.kept K)
  replace N1 := hid (N1.out.kept K)
  replace N2 := hid (N2.out.kept K)
  replace HPV := hid (HPV.out.kept K)
  replace HGV := hid (HGV.out.kept K)
  replace HMM := hid (HMM.out.kept K)
  replace HSV := hid (HSV.out.kept K)
  replace HWZ := hid (HWZ.out.kept K)
  replace HAC := hid ((AccD.still _).kept HAC.out K)
  replace HNA := hid (HNA.out.kept K)
  replace HBA := hid (HBA.out.kept K)
  replace HNM := hid (HNM.out.kept K)
  replace M := M.call K
  refine ⟨_, rfl, trivial, M, ?_⟩
  clear K 
  simp only [Act.put, List.setIfInBounds_toArray, List.set_cons_zero, List.set_cons_succ]
  ((with_reducible apply E_run); rfl; rfl; (intro w M; go_simp; (try go_ints); (try simp only [↓IntWalk.iteOmega]); (try with_reducible rfl)); simp only [Act.put, List.setIfInBounds_toArray, List.set_cons_zero, List.set_cons_succ])
  ((with_reducible apply E_run); rfl; rfl; (intro w M; go_simp; (try go_ints); (try simp only [↓IntWalk.iteOmega]); (try with_reducible rfl)); simp only [Act.put, List.setIfInBounds_toArray, List.set_cons_zero, List.set_cons_succ])
  refine E_nil ?_
  intro wq K M
  replace N0 := hid (N0.out.kept K)
  replace N1 := hid (N1.out.kept K)
  replace N2 := hid (N2.out.kept K)
  replace HPV := hid (HPV.out.kept K)
  replace HGV := hid (HGV.out.kept K)
  replace HMM := hid (HMM.out.kept K)
  replace HSV := hid (HSV.out.kept K)
  replace HWZ := hid (HWZ.out.kept K)
  replace HAC := hid ((AccD.still _).kept HAC.out K)
  replace HNA := hid (HNA.out.kept K)
  replace HBA := hid (HBA.out.kept K)
  replace HNM := hid (HNM.out.kept K)
  clear K
  clear HNM
  refine S_done ?_
  go_wp2_with fail
  refine S_region (by kernel_rfl) ?_
  replace N0 := hid (N0.out.kept (Kept.refl [] _).drew)
  replace N1 := hid (N1.out.kept (Kept.refl [] _).drew)
  replace N2 := hid (N2.out.kept (Kept.refl [] _).drew)
  replace HPV := hid (HPV.out.kept (Kept.refl [] _).drew)
  replace HGV := hid (HGV.out.kept (Kept.refl [] _).drew)
  replace HMM := hid (HMM.out.kept (Kept.refl [] _).drew)
  replace HSV := hid (HSV.out.kept (Kept.refl [] _).drew)
  replace HWZ := hid (HWZ.out.kept (Kept.refl [] _).drew)
  replace HAC := hid ((AccD.still _).kept HAC.out (Kept.refl [] _).drew)
  replace HNA := hid (HNA.out.kept (Kept.refl [] _).drew)
  replace HBA := hid (HBA.out.kept (Kept.refl [] _).drew)
  refine E_float 0 14 [0, 2, 3, 4, 5, 6, 7, 9, 1, 8, 10, 11, 12] 13 11 _ (by kernel_rfl) ⟨⟨_, _, _, _, _, rfl, zero142, rfl⟩⟩ (by intro x hx; simp only [List.mem_cons, List.mem_singleton, List.not_mem_nil, or_false] at hx; rcases hx with rfl | rfl <;> assumption) M.drew ?_
  clear M
  simp only [List.filterMap_cons, List.filterMap_nil, List.getElem?_cons_zero, List.getElem?_cons_succ]
  ((with_reducible apply E_run); rfl; rfl; (intro w M; go_simp; (try go_ints); (try simp only [↓IntWalk.iteOmega]); (try with_reducible rfl)); simp only [Act.put, List.setIfInBounds_toArray, List.set_cons_zero, List.set_cons_succ])
  ((with_reducible apply E_run); rfl; rfl; (intro w M; go_simp; (try go_ints); (try simp only [↓IntWalk.iteOmega]); (try with_reducible rfl)); simp only [Act.put, List.setIfInBounds_toArray, List.set_cons_zero, List.set_cons_succ])
  ((with_reducible apply E_run); rfl; rfl; (intro w M; go_simp; (try go_ints); (try simp only [↓IntWalk.iteOmega]); (try with_reducible rfl)); simp only [Act.put, List.setIfInBounds_toArray, List.set_cons_zero, List.set_cons_succ])
  ((with_reducible apply E_run); rfl; rfl; (intro w M; go_simp; (try go_ints); (try simp only [↓IntWalk.iteOmega]); (try with_reducible rfl)); simp only [Act.put, List.setIfInBounds_toArray, List.set_cons_zero, List.set_cons_succ])
  ((with_reducible apply E_run (v := .agg ((ad 1).map n8).toArray)); rfl; rfl; (intro w M; exact run_loadX (n := 20) M.r2 rfl Salg.underlying45 rfl size45 (by omega) HSE.out); simp only [Act.put, List.setIfInBounds_toArray, List.set_cons_zero, List.set_cons_succ])
  ((with_reducible apply E_run); rfl; rfl; (intro w M; go_simp; (try go_ints); (try simp only [↓IntWalk.iteOmega]); (try with_reducible rfl)); simp only [Act.put, List.setIfInBounds_toArray, List.set_cons_zero, List.set_cons_succ])
  ((with_reducible apply E_run); rfl; rfl; (intro w M; go_simp; (try go_ints); (try simp only [↓IntWalk.iteOmega]); (try with_reducible rfl)); simp only [Act.put, List.setIfInBounds_toArray, List.set_cons_zero, List.set_cons_succ])
  ((with_reducible apply E_run); rfl; rfl; (intro w M; go_simp; (try go_ints); (try simp only [↓IntWalk.iteOmega]); (try with_reducible rfl)); simp only [Act.put, List.setIfInBounds_toArray, List.set_cons_zero, List.set_cons_succ])
  refine E_call rfl Salg.func158 (by kernel_rfl) (by kernel_rfl) (args := [u0]) rfl ?_
  intro w1 K M
  replace N0 := hid (N0.out.kept K)
  replace N1 := hid (N1.out.kept K)
  replace N2 := hid (N2.out.kept K)
  replace HPV := hid (HPV.out.kept K)
  replace HGV := hid (HGV.out.kept K)
  replace HMM := hid (HMM.out.kept K)
  replace HSV := hid (HSV.out.kept K)
  replace HWZ := hid (HWZ.out.kept K)
  replace HAC := hid ((AccD.still _).kept HAC.out K)
  replace HNA := hid (HNA.out.kept K)
  replace HBA := hid (HBA.out.kept K)
  clear K
  refine (norm_num u0 V _ N0.out).mono ?_
  rintro e w10 ⟨vn, rfl, xHVN, K⟩
  replace N0 := hid (N0.out.kept K)
  replace N1 := hid (N1.out.kept K)
  replace N2 := hid (N2.out.kept K)
  replace HPV := hid (HPV.out.kept K)
  replace HGV := hid (HGV.out.kept K)
  replace HMM := hid (HMM.out.kept K)
  replace HSV := hid (HSV.out.kept K)
  replace HWZ := hid (HWZ.out.kept K)
  replace HAC := hid ((AccD.still _).kept HAC.out K)
  replace HNA := hid (HNA.out.kept K)
  replace HBA := hid (HBA.out.kept K)
  have HVN := hid xHVN
  replace M := M.call K
  refine ⟨_, rfl, K.mono (by simp), M, ?_⟩
  clear K xHVN
  simp only [Act.put, List.setIfInBounds_toArray, List.set_cons_zero, List.set_cons_succ]
  refine E_call rfl Salg.func116 (by kernel_rfl) (by kernel_rfl) (args := [.pointer (some ⟨fb, 0, none⟩), .int .i64 1]) rfl ?_
  intro w1 K M
  replace N0 := hid (N0.out.kept K)
  replace N1 := hid (N1.out.kept K)
  replace N2 := hid (N2.out.kept K)
  replace HPV := hid (HPV.out.kept K)
  replace HGV := hid (HGV.out.kept K)
  replace HMM := hid (HMM.out.kept K)
  replace HSV := hid (HSV.out.kept K)
  replace HWZ := hid (HWZ.out.kept K)
  replace HAC := hid ((AccD.still _).kept HAC.out K)
  replace HNA := hid (HNA.out.kept K)
  replace HBA := hid (HBA.out.kept K)
  replace HVN := hid (HVN.out.kept K)
  clear K
  refine (arg_q fb 0 fs _ u1 xs 1 _ M.r2 h7 HSV.out (by omega) hu1 (by omega)).mono ?_
  rintro e w11 ⟨rfl, K⟩
  replace N0 := hid (N0.out.kept K)
  replace N1 := hid (N1.out.kept K)
  replace N2 := hid (N2.out.kept K)
  replace HPV := hid (HPV.out.kept K)
  replace HGV := hid (HGV.out.kept K)
  replace HMM := hid (HMM.out.kept K)
  replace HSV := hid (HSV.out.kept K)
  replace HWZ := hid (HWZ.out.kept K)
  replace HAC := hid ((AccD.still _).kept HAC.out K)
  replace HNA := hid (HNA.out.kept K)
  replace HBA := hid (HBA.out.kept K)
  replace HVN := hid (HVN.out.kept K)
  replace M := M.call K
  refine ⟨_, rfl, K.mono (by simp), M, ?_⟩
  clear K 
  simp only [Act.put, List.setIfInBounds_toArray, List.set_cons_zero, List.set_cons_succ]
  refine E_call rfl Salg.func116 (by kernel_rfl) (by kernel_rfl) (args := [.pointer (some ⟨fb, 0, none⟩), .int .i64 2]) rfl ?_
  intro w1 K M
  replace N0 := hid (N0.out.kept K)
  replace N1 := hid (N1.out.kept K)
  replace N2 := hid (N2.out.kept K)
  replace HPV := hid (HPV.out.kept K)
  replace HGV := hid (HGV.out.kept K)
  replace HMM := hid (HMM.out.kept K)
  replace HSV := hid (HSV.out.kept K)
  replace HWZ := hid (HWZ.out.kept K)
  replace HAC := hid ((AccD.still _).kept HAC.out K)
  replace HNA := hid (HNA.out.kept K)
  replace HBA := hid (HBA.out.kept K)
  replace HVN := hid (HVN.out.kept K)
  clear K
  refine (arg_q fb 0 fs _ u2 xs 2 _ M.r2 h7 HSV.out (by omega) hu2 (by omega)).mono ?_
  rintro e w12 ⟨rfl, K⟩
  replace N0 := hid (N0.out.kept K)
  replace N1 := hid (N1.out.kept K)
  replace N2 := hid (N2.out.kept K)
  replace HPV := hid (HPV.out.kept K)
  replace HGV := hid (HGV.out.kept K)
  replace HMM := hid (HMM.out.kept K)
  replace HSV := hid (HSV.out.kept K)
  replace HWZ := hid (HWZ.out.kept K)
  replace HAC := hid ((AccD.still _).kept HAC.out K)
  replace HNA := hid (HNA.out.kept K)
  replace HBA := hid (HBA.out.kept K)
  replace HVN := hid (HVN.out.kept K)
  replace M := M.call K
  refine ⟨_, rfl, K.mono (by simp), M, ?_⟩
  clear K 
  simp only [Act.put, List.setIfInBounds_toArray, List.set_cons_zero, List.set_cons_succ]
  refine E_call rfl Salg.func115 (by kernel_rfl) (by kernel_rfl) (args := [.pointer (some ⟨fb, 0, none⟩), u1, u2]) rfl ?_
  intro w1 K M
  replace N0 := hid (N0.out.kept K)
  replace N1 := hid (N1.out.kept K)
  replace N2 := hid (N2.out.kept K)
  replace HPV := hid (HPV.out.kept K)
  replace HGV := hid (HGV.out.kept K)
  replace HMM := hid (HMM.out.kept K)
  replace HSV := hid (HSV.out.kept K)
  replace HWZ := hid (HWZ.out.kept K)
  replace HAC := hid ((AccD.still _).kept HAC.out K)
  replace HNA := hid (HNA.out.kept K)
  replace HBA := hid (HBA.out.kept K)
  replace HVN := hid (HVN.out.kept K)
  clear K
  refine (read_any fb 0 fs mv u1 u2 mem 13 19 _ M.r2 h9m HMM.out N1.out N2.out (by decide) hml).mono ?_
  rintro e w13 ⟨cw, rfl, xHCW, xHCX, K⟩
  replace N0 := hid (N0.out.kept K)
  replace N1 := hid (N1.out.kept K)
  replace N2 := hid (N2.out.kept K)
  replace HPV := hid (HPV.out.kept K)
  replace HGV := hid (HGV.out.kept K)
  replace HMM := hid (HMM.out.kept K)
  replace HSV := hid (HSV.out.kept K)
  replace HWZ := hid (HWZ.out.kept K)
  replace HAC := hid ((AccD.still _).kept HAC.out K)
  replace HNA := hid (HNA.out.kept K)
  replace HBA := hid (HBA.out.kept K)
  replace HVN := hid (HVN.out.kept K)
  have HCW := hid xHCW
  have HCX := hid xHCX
  replace M := M.call K
  refine ⟨_, rfl, K.mono (by simp), M, ?_⟩
  clear K xHCW xHCX
  simp only [Act.put, List.setIfInBounds_toArray, List.set_cons_zero, List.set_cons_succ]
  clear HCX
  rw [HCUT.out] at HCW
  ((with_reducible apply E_run (v := .agg (frG 5 false nilS vn cw nilS z20 (ad 1) wnil).toArray)); rfl; rfl; (intro w M; obtain ⟨p0, q0, s0, e0⟩ := HVN.out.slice; subst e0; obtain ⟨p1, q1, s1, e1⟩ := HCW.out.slice; subst e1; kernel_rfl); simp only [Act.put, List.setIfInBounds_toArray, List.set_cons_zero, List.set_cons_succ])
  refine E_nil ?_
  intro w14 K M
  replace N0 := hid (N0.out.kept K)
  replace N1 := hid (N1.out.kept K)
  replace N2 := hid (N2.out.kept K)
  replace HPV := hid (HPV.out.kept K)
  replace HGV := hid (HGV.out.kept K)
  replace HMM := hid (HMM.out.kept K)
  replace HSV := hid (HSV.out.kept K)
  replace HWZ := hid (HWZ.out.kept K)
  replace HAC := hid ((AccD.still _).kept HAC.out K)
  replace HNA := hid (HNA.out.kept K)
  replace HBA := hid (HBA.out.kept K)
  replace HVN := hid (HVN.out.kept K)
  replace HCW := hid (HCW.out.kept K)
  clear K
  intro t11 w15 K ht11 M
  replace N0 := hid (N0.out.kept K)
  replace N1 := hid (N1.out.kept K)
  replace N2 := hid (N2.out.kept K)
  replace HPV := hid (HPV.out.kept K)
  replace HGV := hid (HGV.out.kept K)
  replace HMM := hid (HMM.out.kept K)
  replace HSV := hid (HSV.out.kept K)
  replace HWZ := hid (HWZ.out.kept K)
  replace HAC := hid ((AccD.still _).kept HAC.out K)
  replace HNA := hid (HNA.out.kept K)
  replace HBA := hid (HBA.out.kept K)
  replace HVN := hid (HVN.out.kept K)
  replace HCW := hid (HCW.out.kept K)
  clear K
  simp only [Act.put, List.setIfInBounds_toArray, List.set_cons_zero, List.set_cons_succ]
  refine S_seg 14 15 (by kernel_rfl) (by decide) ?_
  simp only [List.take_succ_cons, List.take_zero, List.drop_zero, List.drop_succ_cons, Nat.sub_zero, Nat.reduceSub]
  have hvn1 := HVN.out.one
  have hcw1 := HCW.out.one
  go_wp2_with ((with_reducible apply W_storeK (b := t11) (vs := (frG 5 false nilS vn cw nilS z20 (ad 1) wnil).toArray)); rfl; rfl; exact M.r0; exact size142; rfl; exact frG_oneNL rfl hvn1 hcw1 rfl; intro w16 K hr3; replace N0 := hid (N0.out.keptC K M.r0 (not_bytes_at (i := 3) (p := none) (n := 0) (m := 0) (by kernel_rfl))); replace N1 := hid (N1.out.keptC K M.r0 (not_bytes_at (i := 3) (p := none) (n := 0) (m := 0) (by kernel_rfl))); replace N2 := hid (N2.out.keptC K M.r0 (not_bytes_at (i := 3) (p := none) (n := 0) (m := 0) (by kernel_rfl))); replace HPV := hid (HPV.out.keptC K M.r0 (not_bytes_at (i := 3) (p := none) (n := 0) (m := 0) (by kernel_rfl))); replace HGV := hid (HGV.out.keptC K M.r0 (not_bytes_at (i := 3) (p := none) (n := 0) (m := 0) (by kernel_rfl))); replace HMM := hid (HMM.out.keptC K M.r0 (not_bytes_at (i := 3) (p := none) (n := 0) (m := 0) (by kernel_rfl))); replace HSV := hid (HSV.out.keptC K M.r0 (by decide)); replace HWZ := hid (HWZ.out.keptC K M.r0 (by decide)); replace HAC := hid ((AccD.still _).keptC HAC.out K M.r0 (not_bytes_at (i := 3) (p := none) (n := 0) (m := 0) (by kernel_rfl)) (.inr rfl)); replace HNA := hid (HNA.out.keptC K M.r0 (not_bytes_at (i := 3) (p := none) (n := 0) (m := 0) (by kernel_rfl))); replace HBA := hid (HBA.out.keptC K M.r0 (not_bytes_at (i := 3) (p := none) (n := 0) (m := 0) (by kernel_rfl))); replace HVN := hid (HVN.out.keptC K M.r0 (not_bytes_at (i := 3) (p := none) (n := 0) (m := 0) (by kernel_rfl))); replace HCW := hid (HCW.out.keptC K M.r0 (not_bytes_at (i := 3) (p := none) (n := 0) (m := 0) (by kernel_rfl))); replace M := Mem.callPut (L1 := []) M (Or.inr ht11) K hr3; clear K hr3; simp only [List.nil_append] at M)
  refine S_done ?_
  go_wp2_with fail
  refine S_region (by kernel_rfl) ?_
  replace N0 := hid (N0.out.kept (Kept.refl [] _).drew)
  replace N1 := hid (N1.out.kept (Kept.refl [] _).drew)
  replace N2 := hid (N2.out.kept (Kept.refl [] _).drew)
  replace HPV := hid (HPV.out.kept (Kept.refl [] _).drew)
  replace HGV := hid (HGV.out.kept (Kept.refl [] _).drew)
  replace HMM := hid (HMM.out.kept (Kept.refl [] _).drew)
  replace HSV := hid (HSV.out.kept (Kept.refl [] _).drew)
  replace HWZ := hid (HWZ.out.kept (Kept.refl [] _).drew)
  replace HAC := hid ((AccD.still _).kept HAC.out (Kept.refl [] _).drew)
  replace HNA := hid (HNA.out.kept (Kept.refl [] _).drew)
  replace HBA := hid (HBA.out.kept (Kept.refl [] _).drew)
  replace HVN := hid (HVN.out.kept (Kept.refl [] _).drew)
  replace HCW := hid (HCW.out.kept (Kept.refl [] _).drew)
  refine E_stage 0 7 [0, 1, 2, 3, 4, 5, 6] (by kernel_rfl) M.drew ?_
  clear M
  simp only [List.filterMap_cons, List.filterMap_nil, List.getElem?_cons_zero, List.getElem?_cons_succ]
  ((with_reducible apply E_run); rfl; rfl; (intro w M; go_simp; (try go_ints); (try simp only [↓IntWalk.iteOmega]); (try with_reducible rfl)); simp only [Act.put, List.setIfInBounds_toArray, List.set_cons_zero, List.set_cons_succ])
  ((with_reducible apply E_run); rfl; rfl; (intro w M; go_simp; (try go_ints); (try simp only [↓IntWalk.iteOmega]); (try with_reducible rfl)); simp only [Act.put, List.setIfInBounds_toArray, List.set_cons_zero, List.set_cons_succ])
  ((with_reducible apply E_run); rfl; rfl; (intro w M; go_simp; (try go_ints); (try simp only [↓IntWalk.iteOmega]); (try with_reducible rfl)); simp only [Act.put, List.setIfInBounds_toArray, List.set_cons_zero, List.set_cons_succ])
  ((with_reducible apply E_run (v := .agg ((ad 1).map n8).toArray)); rfl; rfl; (intro w M; exact run_loadX (n := 20) M.r3 rfl Salg.underlying45 rfl size45 (by omega) HSE.out); simp only [Act.put, List.setIfInBounds_toArray, List.set_cons_zero, List.set_cons_succ])
  ((with_reducible apply E_run); rfl; rfl; (intro w M; go_simp; (try go_ints); (try simp only [↓IntWalk.iteOmega]); (try with_reducible rfl)); simp only [Act.put, List.setIfInBounds_toArray, List.set_cons_zero, List.set_cons_succ])
  ((with_reducible apply E_run); rfl; rfl; (intro w M; exact run_loadCell (M.r1) rfl (show (⟨ad 1, [nva, bva, cua, nilS]⟩ : Ac).cells.toArray[20]? = some nva by kernel_rfl) Salg.underlying89 rfl); simp only [Act.put, List.setIfInBounds_toArray, List.set_cons_zero, List.set_cons_succ])
  refine E_call rfl Salg.func86 (by kernel_rfl) (by kernel_rfl) (args := [A8 (ad 1), nva]) rfl ?_
  intro w1 K M
  replace N0 := hid (N0.out.kept K)
  replace N1 := hid (N1.out.kept K)
  replace N2 := hid (N2.out.kept K)
  replace HPV := hid (HPV.out.kept K)
  replace HGV := hid (HGV.out.kept K)
  replace HMM := hid (HMM.out.kept K)
  replace HSV := hid (HSV.out.kept K)
  replace HWZ := hid (HWZ.out.kept K)
  replace HAC := hid ((AccD.still _).kept HAC.out K)
  replace HNA := hid (HNA.out.kept K)
  replace HBA := hid (HBA.out.kept K)
  replace HVN := hid (HVN.out.kept K)
  replace HCW := hid (HCW.out.kept K)
  clear K
  refine (createAddr_1 nva (ad 1) _ HNA.out rfl (ad_small (by decide))).mono ?_
  rintro e w17 ⟨rfl, K⟩
  replace N0 := hid (N0.out.kept K)
  replace N1 := hid (N1.out.kept K)
  replace N2 := hid (N2.out.kept K)
  replace HPV := hid (HPV.out.kept K)
  replace HGV := hid (HGV.out.kept K)
  replace HMM := hid (HMM.out.kept K)
  replace HSV := hid (HSV.out.kept K)
  replace HWZ := hid (HWZ.out.kept K)
  replace HAC := hid ((AccD.still _).kept HAC.out K)
  replace HNA := hid (HNA.out.kept K)
  replace HBA := hid (HBA.out.kept K)
  replace HVN := hid (HVN.out.kept K)
  replace HCW := hid (HCW.out.kept K)
  replace M := M.call K
  refine ⟨_, rfl, trivial, M, ?_⟩
  rw [hadr6]
  clear K 
  simp only [Act.put, List.setIfInBounds_toArray, List.set_cons_zero, List.set_cons_succ]
  refine E_nil ?_
  intro wq K M
  replace N0 := hid (N0.out.kept K)
  replace N1 := hid (N1.out.kept K)
  replace N2 := hid (N2.out.kept K)
  replace HPV := hid (HPV.out.kept K)
  replace HGV := hid (HGV.out.kept K)
  replace HMM := hid (HMM.out.kept K)
  replace HSV := hid (HSV.out.kept K)
  replace HWZ := hid (HWZ.out.kept K)
  replace HAC := hid ((AccD.still _).kept HAC.out K)
  replace HNA := hid (HNA.out.kept K)
  replace HBA := hid (HBA.out.kept K)
  replace HVN := hid (HVN.out.kept K)
  replace HCW := hid (HCW.out.kept K)
  clear K
  refine S_seg 7 9 (by kernel_rfl) (by decide) ?_
  simp only [List.take_succ_cons, List.take_zero, List.drop_zero, List.drop_succ_cons, Nat.sub_zero, Nat.reduceSub]
  go_wp2_with ((with_reducible apply W_stP (b := t11) (o := 12) (n := 20) (v := A8 ha6) (rs := (frG 5 false nilS vn cw nilS ha6 (ad 1) wnil).toArray)); rfl; rfl; exact M.r0; exact size45; rfl; exact n8_ones _; exact Nat.le_of_ble_eq_true (by kernel_rfl); kernel_rfl; intro w18 K hr3; replace N0 := hid (N0.out.keptC K M.r0 (not_bytes_at (i := 3) (p := none) (n := 0) (m := 0) (by kernel_rfl))); replace N1 := hid (N1.out.keptC K M.r0 (not_bytes_at (i := 3) (p := none) (n := 0) (m := 0) (by kernel_rfl))); replace N2 := hid (N2.out.keptC K M.r0 (not_bytes_at (i := 3) (p := none) (n := 0) (m := 0) (by kernel_rfl))); replace HPV := hid (HPV.out.keptC K M.r0 (not_bytes_at (i := 3) (p := none) (n := 0) (m := 0) (by kernel_rfl))); replace HGV := hid (HGV.out.keptC K M.r0 (not_bytes_at (i := 3) (p := none) (n := 0) (m := 0) (by kernel_rfl))); replace HMM := hid (HMM.out.keptC K M.r0 (not_bytes_at (i := 3) (p := none) (n := 0) (m := 0) (by kernel_rfl))); replace HSV := hid (HSV.out.keptC K M.r0 (by decide)); replace HWZ := hid (HWZ.out.keptC K M.r0 (by decide)); replace HAC := hid ((AccD.still _).keptC HAC.out K M.r0 (not_bytes_at (i := 3) (p := none) (n := 0) (m := 0) (by kernel_rfl)) (.inr rfl)); replace HNA := hid (HNA.out.keptC K M.r0 (not_bytes_at (i := 3) (p := none) (n := 0) (m := 0) (by kernel_rfl))); replace HBA := hid (HBA.out.keptC K M.r0 (not_bytes_at (i := 3) (p := none) (n := 0) (m := 0) (by kernel_rfl))); replace HVN := hid (HVN.out.keptC K M.r0 (not_bytes_at (i := 3) (p := none) (n := 0) (m := 0) (by kernel_rfl))); replace HCW := hid (HCW.out.keptC K M.r0 (not_bytes_at (i := 3) (p := none) (n := 0) (m := 0) (by kernel_rfl))); replace M := Mem.callPut (L1 := []) M (Or.inr ht11) K hr3; clear K hr3; simp only [List.nil_append] at M)
  refine S_done ?_
  go_wp2_with fail
  refine S_region (by kernel_rfl) ?_
  replace N0 := hid (N0.out.kept (Kept.refl [] _).drew)
  replace N1 := hid (N1.out.kept (Kept.refl [] _).drew)
  replace N2 := hid (N2.out.kept (Kept.refl [] _).drew)
  replace HPV := hid (HPV.out.kept (Kept.refl [] _).drew)
  replace HGV := hid (HGV.out.kept (Kept.refl [] _).drew)
  replace HMM := hid (HMM.out.kept (Kept.refl [] _).drew)
  replace HSV := hid (HSV.out.kept (Kept.refl [] _).drew)
  replace HWZ := hid (HWZ.out.kept (Kept.refl [] _).drew)
  replace HAC := hid ((AccD.still _).kept HAC.out (Kept.refl [] _).drew)
  replace HNA := hid (HNA.out.kept (Kept.refl [] _).drew)
  replace HBA := hid (HBA.out.kept (Kept.refl [] _).drew)
  replace HVN := hid (HVN.out.kept (Kept.refl [] _).drew)
  replace HCW := hid (HCW.out.kept (Kept.refl [] _).drew)
  refine E_stage 0 11 [0, 1, 2, 3, 4, 5, 6, 7, 8, 9, 10] (by kernel_rfl) M.drew ?_
  clear M
  simp only [List.filterMap_cons, List.filterMap_nil, List.getElem?_cons_zero, List.getElem?_cons_succ]
  ((with_reducible apply E_run); rfl; rfl; (intro w M; go_simp; (try go_ints); (try simp only [↓IntWalk.iteOmega]); (try with_reducible rfl)); simp only [Act.put, List.setIfInBounds_toArray, List.set_cons_zero, List.set_cons_succ])
  ((with_reducible apply E_run); rfl; rfl; (intro w M; go_simp; (try go_ints); (try simp only [↓IntWalk.iteOmega]); (try with_reducible rfl)); simp only [Act.put, List.setIfInBounds_toArray, List.set_cons_zero, List.set_cons_succ])
  ((with_reducible apply E_run); rfl; rfl; (intro w M; go_simp; (try go_ints); (try simp only [↓IntWalk.iteOmega]); (try with_reducible rfl)); simp only [Act.put, List.setIfInBounds_toArray, List.set_cons_zero, List.set_cons_succ])
  ((with_reducible apply E_run); rfl; rfl; (intro w M; go_simp; (try go_ints); (try simp only [↓IntWalk.iteOmega]); (try with_reducible rfl)); simp only [Act.put, List.setIfInBounds_toArray, List.set_cons_zero, List.set_cons_succ])
  ((with_reducible apply E_run); rfl; rfl; (intro w M; go_simp; (try go_ints); (try simp only [↓IntWalk.iteOmega]); (try with_reducible rfl)); simp only [Act.put, List.setIfInBounds_toArray, List.set_cons_zero, List.set_cons_succ])
  ((with_reducible apply E_run); rfl; rfl; (intro w M; go_simp; (try go_ints); (try simp only [↓IntWalk.iteOmega]); (try with_reducible rfl)); simp only [Act.put, List.setIfInBounds_toArray, List.set_cons_zero, List.set_cons_succ])
  ((with_reducible apply E_run (v := .agg ((ad 1).map n8).toArray)); rfl; rfl; (intro w M; exact run_loadX (n := 20) M.r3 rfl Salg.underlying45 rfl size45 (by omega) HSE.out); simp only [Act.put, List.setIfInBounds_toArray, List.set_cons_zero, List.set_cons_succ])
  ((with_reducible apply E_run); rfl; rfl; (intro w M; go_simp; (try go_ints); (try simp only [↓IntWalk.iteOmega]); (try with_reducible rfl)); simp only [Act.put, List.setIfInBounds_toArray, List.set_cons_zero, List.set_cons_succ])
  ((with_reducible apply E_run); rfl; rfl; (intro w M; exact run_loadCell (M.r1) rfl (show (⟨ad 1, [nva, bva, cua, nilS]⟩ : Ac).cells.toArray[20]? = some nva by kernel_rfl) Salg.underlying89 rfl); simp only [Act.put, List.setIfInBounds_toArray, List.set_cons_zero, List.set_cons_succ])
  refine E_call rfl Salg.func87 (by kernel_rfl) (by kernel_rfl) (args := [.int .u64 1]) rfl ?_
  intro w1 K M
  replace N0 := hid (N0.out.kept K)
  replace N1 := hid (N1.out.kept K)
  replace N2 := hid (N2.out.kept K)
  replace HPV := hid (HPV.out.kept K)
  replace HGV := hid (HGV.out.kept K)
  replace HMM := hid (HMM.out.kept K)
  replace HSV := hid (HSV.out.kept K)
  replace HWZ := hid (HWZ.out.kept K)
  replace HAC := hid ((AccD.still _).kept HAC.out K)
  replace HNA := hid (HNA.out.kept K)
  replace HBA := hid (HBA.out.kept K)
  replace HVN := hid (HVN.out.kept K)
  replace HCW := hid (HCW.out.kept K)
  clear K
  refine (num_int _ 1 rfl (by decide) _).mono ?_
  rintro e w19 ⟨on, rfl, xHON, K⟩
  replace N0 := hid (N0.out.kept K)
  replace N1 := hid (N1.out.kept K)
  replace N2 := hid (N2.out.kept K)
  replace HPV := hid (HPV.out.kept K)
  replace HGV := hid (HGV.out.kept K)
  replace HMM := hid (HMM.out.kept K)
  replace HSV := hid (HSV.out.kept K)
  replace HWZ := hid (HWZ.out.kept K)
  replace HAC := hid ((AccD.still _).kept HAC.out K)
  replace HNA := hid (HNA.out.kept K)
  replace HBA := hid (HBA.out.kept K)
  replace HVN := hid (HVN.out.kept K)
  replace HCW := hid (HCW.out.kept K)
  have HON := hid xHON
  replace M := M.call K
  refine ⟨_, rfl, trivial, M, ?_⟩
  clear K xHON
  simp only [Act.put, List.setIfInBounds_toArray, List.set_cons_zero, List.set_cons_succ]
  refine E_call rfl Salg.func68 (by kernel_rfl) (by kernel_rfl) (args := [nva, on]) rfl ?_
  intro w1 K M
  replace N0 := hid (N0.out.kept K)
  replace N1 := hid (N1.out.kept K)
  replace N2 := hid (N2.out.kept K)
  replace HPV := hid (HPV.out.kept K)
  replace HGV := hid (HGV.out.kept K)
  replace HMM := hid (HMM.out.kept K)
  replace HSV := hid (HSV.out.kept K)
  replace HWZ := hid (HWZ.out.kept K)
  replace HAC := hid ((AccD.still _).kept HAC.out K)
  replace HNA := hid (HNA.out.kept K)
  replace HBA := hid (HBA.out.kept K)
  replace HVN := hid (HVN.out.kept K)
  replace HCW := hid (HCW.out.kept K)
  replace HON := hid (HON.out.kept K)
  clear K
  refine (add_num nva on 1 1 _ HNA.out HON.out (by decide) (by decide)).mono ?_
  rintro e w20 ⟨nn, rfl, xHNN, K⟩
  replace N0 := hid (N0.out.kept K)
  replace N1 := hid (N1.out.kept K)
  replace N2 := hid (N2.out.kept K)
  replace HPV := hid (HPV.out.kept K)
  replace HGV := hid (HGV.out.kept K)
  replace HMM := hid (HMM.out.kept K)
  replace HSV := hid (HSV.out.kept K)
  replace HWZ := hid (HWZ.out.kept K)
  replace HAC := hid ((AccD.still _).kept HAC.out K)
  replace HNA := hid (HNA.out.kept K)
  replace HBA := hid (HBA.out.kept K)
  replace HVN := hid (HVN.out.kept K)
  replace HCW := hid (HCW.out.kept K)
  replace HON := hid (HON.out.kept K)
  have HNN := hid xHNN
  replace M := M.call K
  refine ⟨_, rfl, trivial, M, ?_⟩
  clear K xHNN
  simp only [Act.put, List.setIfInBounds_toArray, List.set_cons_zero, List.set_cons_succ]
  refine E_nil ?_
  intro wq K M
  replace N0 := hid (N0.out.kept K)
  replace N1 := hid (N1.out.kept K)
  replace N2 := hid (N2.out.kept K)
  replace HPV := hid (HPV.out.kept K)
  replace HGV := hid (HGV.out.kept K)
  replace HMM := hid (HMM.out.kept K)
  replace HSV := hid (HSV.out.kept K)
  replace HWZ := hid (HWZ.out.kept K)
  replace HAC := hid ((AccD.still _).kept HAC.out K)
  replace HNA := hid (HNA.out.kept K)
  replace HBA := hid (HBA.out.kept K)
  replace HVN := hid (HVN.out.kept K)
  replace HCW := hid (HCW.out.kept K)
  replace HON := hid (HON.out.kept K)
  replace HNN := hid (HNN.out.kept K)
  clear K
  refine S_seg 11 12 (by kernel_rfl) (by decide) ?_
  simp only [List.take_succ_cons, List.take_zero, List.drop_zero, List.drop_succ_cons, Nat.sub_zero, Nat.reduceSub]
  go_wp2_with fail
  refine (setNonce_D c _ E.vz nn (1 + 1) D da (ad 1) _ M.r2 (chy_nb _ _ _ _) (chN_get _ _ _ _ (by decide)) HAC.out rfl (ad_small (by decide)) HNN.out HDA.out (by decide) (by omega)).mono ?_
  rintro e w21 ⟨r, v1, rfl, K, k1, k2⟩
  rw [show (chN E wz (.slice (some ⟨fb, 0, none⟩) 1 cap) rt).setIfInBounds 0 v1 = (chN { E with vz := v1 } wz (.slice (some ⟨fb, 0, none⟩) 1 cap) rt) from by kernel_rfl] at k1
  replace N0 := hid (N0.out.keptC K M.r2 (chy_nb _ _ _ _))
  replace N1 := hid (N1.out.keptC K M.r2 (chy_nb _ _ _ _))
  replace N2 := hid (N2.out.keptC K M.r2 (chy_nb _ _ _ _))
  replace HPV := hid (HPV.out.keptC K M.r2 (chy_nb _ _ _ _))
  replace HGV := hid (HGV.out.keptC K M.r2 (chy_nb _ _ _ _))
  replace HMM := hid (HMM.out.keptC K M.r2 (chy_nb _ _ _ _))
  replace HSV := hid (HSV.out.keptC K M.r2 (by decide))
  replace HWZ := hid (HWZ.out.keptC K M.r2 (by decide))
  replace HVN := hid (HVN.out.keptC K M.r2 (chy_nb _ _ _ _))
  replace HCW := hid (HCW.out.keptC K M.r2 (chy_nb _ _ _ _))
  replace HAC := hid k2
  replace M := Mem.callPut (L1 := [_, _]) M (Or.inl (by simp)) K k1
  clear K k1 k2 HON HNN HNA HBA
  simp only [List.cons_append, List.nil_append] at M
  go_wp2_with fail
  refine S_done ?_
  go_wp2_with fail
  refine S_region (by kernel_rfl) ?_
  replace N0 := hid (N0.out.kept (Kept.refl [] _).drew)
  replace N1 := hid (N1.out.kept (Kept.refl [] _).drew)
  replace N2 := hid (N2.out.kept (Kept.refl [] _).drew)
  replace HPV := hid (HPV.out.kept (Kept.refl [] _).drew)
  replace HGV := hid (HGV.out.kept (Kept.refl [] _).drew)
  replace HMM := hid (HMM.out.kept (Kept.refl [] _).drew)
  replace HSV := hid (HSV.out.kept (Kept.refl [] _).drew)
  replace HWZ := hid (HWZ.out.kept (Kept.refl [] _).drew)
  replace HAC := hid ((AccD.still _).kept HAC.out (Kept.refl [] _).drew)
  replace HVN := hid (HVN.out.kept (Kept.refl [] _).drew)
  replace HCW := hid (HCW.out.kept (Kept.refl [] _).drew)
  refine E_stage 0 9 [0, 1, 2, 3, 4, 5, 6, 7, 8] (by kernel_rfl) M.drew ?_
  clear M
  simp only [List.filterMap_cons, List.filterMap_nil, List.getElem?_cons_zero, List.getElem?_cons_succ]
  ((with_reducible apply E_run); rfl; rfl; (intro w M; go_simp; (try go_ints); (try simp only [↓IntWalk.iteOmega]); (try with_reducible rfl)); simp only [Act.put, List.setIfInBounds_toArray, List.set_cons_zero, List.set_cons_succ])
  ((with_reducible apply E_run); rfl; rfl; (intro w M; go_simp; (try go_ints); (try simp only [↓IntWalk.iteOmega]); (try with_reducible rfl)); simp only [Act.put, List.setIfInBounds_toArray, List.set_cons_zero, List.set_cons_succ])
  ((with_reducible apply E_run); rfl; rfl; (intro w M; go_simp; (try go_ints); (try simp only [↓IntWalk.iteOmega]); (try with_reducible rfl)); simp only [Act.put, List.setIfInBounds_toArray, List.set_cons_zero, List.set_cons_succ])
  ((with_reducible apply E_run); rfl; rfl; (intro w M; exact run_loadCell (M.r3) rfl h5 Salg.underlying89 rfl); simp only [Act.put, List.setIfInBounds_toArray, List.set_cons_zero, List.set_cons_succ])
  ((with_reducible apply E_run); rfl; rfl; (intro w M; go_simp; (try go_ints); (try simp only [↓IntWalk.iteOmega]); (try with_reducible rfl)); simp only [Act.put, List.setIfInBounds_toArray, List.set_cons_zero, List.set_cons_succ])
  ((with_reducible apply E_run); rfl; rfl; (intro w M; go_simp; (try go_ints); (try simp only [↓IntWalk.iteOmega]); (try with_reducible rfl)); simp only [Act.put, List.setIfInBounds_toArray, List.set_cons_zero, List.set_cons_succ])
  ((with_reducible apply E_run); rfl; rfl; (intro w M; go_simp; (try go_ints); (try simp only [↓IntWalk.iteOmega]); (try with_reducible rfl)); simp only [Act.put, List.setIfInBounds_toArray, List.set_cons_zero, List.set_cons_succ])
  ((with_reducible apply E_run); rfl; rfl; (intro w M; exact run_loadCell (M.r3) rfl h5 Salg.underlying89 rfl); simp only [Act.put, List.setIfInBounds_toArray, List.set_cons_zero, List.set_cons_succ])
  refine E_call rfl Salg.func220 (by kernel_rfl) (by kernel_rfl) (args := [gv, gv]) rfl ?_
  intro w1 K M
  replace N0 := hid (N0.out.kept K)
  replace N1 := hid (N1.out.kept K)
  replace N2 := hid (N2.out.kept K)
  replace HPV := hid (HPV.out.kept K)
  replace HGV := hid (HGV.out.kept K)
  replace HMM := hid (HMM.out.kept K)
  replace HSV := hid (HSV.out.kept K)
  replace HWZ := hid (HWZ.out.kept K)
  replace HAC := hid ((AccD.still _).kept HAC.out K)
  replace HVN := hid (HVN.out.kept K)
  replace HCW := hid (HCW.out.kept K)
  clear K
  refine (sentGas_any gv gv G G _ HGV.out HGV.out hG).mono ?_
  rintro e w22 ⟨sg, rfl, xHSG, K⟩
  replace N0 := hid (N0.out.kept K)
  replace N1 := hid (N1.out.kept K)
  replace N2 := hid (N2.out.kept K)
  replace HPV := hid (HPV.out.kept K)
  replace HGV := hid (HGV.out.kept K)
  replace HMM := hid (HMM.out.kept K)
  replace HSV := hid (HSV.out.kept K)
  replace HWZ := hid (HWZ.out.kept K)
  replace HAC := hid ((AccD.still _).kept HAC.out K)
  replace HVN := hid (HVN.out.kept K)
  replace HCW := hid (HCW.out.kept K)
  have HSG := hid xHSG
  replace M := M.call K
  refine ⟨_, rfl, trivial, M, ?_⟩
  clear K xHSG
  simp only [Act.put, List.setIfInBounds_toArray, List.set_cons_zero, List.set_cons_succ]
  refine E_nil ?_
  intro wq K M
  replace N0 := hid (N0.out.kept K)
  replace N1 := hid (N1.out.kept K)
  replace N2 := hid (N2.out.kept K)
  replace HPV := hid (HPV.out.kept K)
  replace HGV := hid (HGV.out.kept K)
  replace HMM := hid (HMM.out.kept K)
  replace HSV := hid (HSV.out.kept K)
  replace HWZ := hid (HWZ.out.kept K)
  replace HAC := hid ((AccD.still _).kept HAC.out K)
  replace HVN := hid (HVN.out.kept K)
  replace HCW := hid (HCW.out.kept K)
  replace HSG := hid (HSG.out.kept K)
  clear K
  refine S_seg 9 11 (by kernel_rfl) (by decide) ?_
  simp only [List.take_succ_cons, List.take_zero, List.drop_zero, List.drop_succ_cons, Nat.sub_zero, Nat.reduceSub]
  have hsg1 := HSG.out.one
  go_wp2_with ((with_reducible apply W_stV (b := t11) (o := 4) (v := sg)); rfl; rfl; exact hsg1; exact M.r0; exact size89; exact Nat.le_of_ble_eq_true (by kernel_rfl); intro w23 K hr3; rw [show (frG 5 false nilS vn cw nilS ha6 (ad 1) wnil).toArray.setIfInBounds 4 sg = (frG 5 false sg vn cw nilS ha6 (ad 1) wnil).toArray from by kernel_rfl] at hr3; replace N0 := hid (N0.out.keptC K M.r0 (not_bytes_at (i := 3) (p := none) (n := 0) (m := 0) (by kernel_rfl))); replace N1 := hid (N1.out.keptC K M.r0 (not_bytes_at (i := 3) (p := none) (n := 0) (m := 0) (by kernel_rfl))); replace N2 := hid (N2.out.keptC K M.r0 (not_bytes_at (i := 3) (p := none) (n := 0) (m := 0) (by kernel_rfl))); replace HPV := hid (HPV.out.keptC K M.r0 (not_bytes_at (i := 3) (p := none) (n := 0) (m := 0) (by kernel_rfl))); replace HGV := hid (HGV.out.keptC K M.r0 (not_bytes_at (i := 3) (p := none) (n := 0) (m := 0) (by kernel_rfl))); replace HMM := hid (HMM.out.keptC K M.r0 (not_bytes_at (i := 3) (p := none) (n := 0) (m := 0) (by kernel_rfl))); replace HSV := hid (HSV.out.keptC K M.r0 (by decide)); replace HWZ := hid (HWZ.out.keptC K M.r0 (by decide)); replace HAC := hid ((AccD.still _).keptC HAC.out K M.r0 (not_bytes_at (i := 3) (p := none) (n := 0) (m := 0) (by kernel_rfl)) (.inr rfl)); replace HVN := hid (HVN.out.keptC K M.r0 (not_bytes_at (i := 3) (p := none) (n := 0) (m := 0) (by kernel_rfl))); replace HCW := hid (HCW.out.keptC K M.r0 (not_bytes_at (i := 3) (p := none) (n := 0) (m := 0) (by kernel_rfl))); replace HSG := hid (HSG.out.keptC K M.r0 (not_bytes_at (i := 3) (p := none) (n := 0) (m := 0) (by kernel_rfl))); replace M := Mem.callPut (L1 := []) M (Or.inr ht11) K hr3; clear K hr3; simp only [List.nil_append] at M)
  refine S_done ?_
  go_wp2_with fail
  refine S_region (by kernel_rfl) ?_
  replace N0 := hid (N0.out.kept (Kept.refl [] _).drew)
  replace N1 := hid (N1.out.kept (Kept.refl [] _).drew)
  replace N2 := hid (N2.out.kept (Kept.refl [] _).drew)
  replace HPV := hid (HPV.out.kept (Kept.refl [] _).drew)
  replace HGV := hid (HGV.out.kept (Kept.refl [] _).drew)
  replace HMM := hid (HMM.out.kept (Kept.refl [] _).drew)
  replace HSV := hid (HSV.out.kept (Kept.refl [] _).drew)
  replace HWZ := hid (HWZ.out.kept (Kept.refl [] _).drew)
  replace HAC := hid ((AccD.still _).kept HAC.out (Kept.refl [] _).drew)
  replace HVN := hid (HVN.out.kept (Kept.refl [] _).drew)
  replace HCW := hid (HCW.out.kept (Kept.refl [] _).drew)
  replace HSG := hid (HSG.out.kept (Kept.refl [] _).drew)
  refine E_stage 0 8 [0, 1, 2, 3, 4, 5, 6, 7] (by kernel_rfl) M.drew ?_
  clear M
  simp only [List.filterMap_cons, List.filterMap_nil, List.getElem?_cons_zero, List.getElem?_cons_succ]
  ((with_reducible apply E_run); rfl; rfl; (intro w M; go_simp; (try go_ints); (try simp only [↓IntWalk.iteOmega]); (try with_reducible rfl)); simp only [Act.put, List.setIfInBounds_toArray, List.set_cons_zero, List.set_cons_succ])
  ((with_reducible apply E_run); rfl; rfl; (intro w M; go_simp; (try go_ints); (try simp only [↓IntWalk.iteOmega]); (try with_reducible rfl)); simp only [Act.put, List.setIfInBounds_toArray, List.set_cons_zero, List.set_cons_succ])
  ((with_reducible apply E_run); rfl; rfl; (intro w M; go_simp; (try go_ints); (try simp only [↓IntWalk.iteOmega]); (try with_reducible rfl)); simp only [Act.put, List.setIfInBounds_toArray, List.set_cons_zero, List.set_cons_succ])
  ((with_reducible apply E_run); rfl; rfl; (intro w M; go_simp; (try go_ints); (try simp only [↓IntWalk.iteOmega]); (try with_reducible rfl)); simp only [Act.put, List.setIfInBounds_toArray, List.set_cons_zero, List.set_cons_succ])
  ((with_reducible apply E_run); rfl; rfl; (intro w M; exact run_loadCell (M.r3) rfl h5 Salg.underlying89 rfl); simp only [Act.put, List.setIfInBounds_toArray, List.set_cons_zero, List.set_cons_succ])
  ((with_reducible apply E_run); rfl; rfl; (intro w M; go_simp; (try go_ints); (try simp only [↓IntWalk.iteOmega]); (try with_reducible rfl)); simp only [Act.put, List.setIfInBounds_toArray, List.set_cons_zero, List.set_cons_succ])
  ((with_reducible apply E_run); rfl; rfl; (intro w M; exact run_loadCell (M.r0) rfl (show (frG 5 false sg vn cw nilS ha6 (ad 1) wnil).toArray[4]? = some sg by kernel_rfl) Salg.underlying89 rfl); simp only [Act.put, List.setIfInBounds_toArray, List.set_cons_zero, List.set_cons_succ])
  refine E_call rfl Salg.func88 (by kernel_rfl) (by kernel_rfl) (args := [gv, sg]) rfl ?_
  intro w1 K M
  replace N0 := hid (N0.out.kept K)
  replace N1 := hid (N1.out.kept K)
  replace N2 := hid (N2.out.kept K)
  replace HPV := hid (HPV.out.kept K)
  replace HGV := hid (HGV.out.kept K)
  replace HMM := hid (HMM.out.kept K)
  replace HSV := hid (HSV.out.kept K)
  replace HWZ := hid (HWZ.out.kept K)
  replace HAC := hid ((AccD.still _).kept HAC.out K)
  replace HVN := hid (HVN.out.kept K)
  replace HCW := hid (HCW.out.kept K)
  replace HSG := hid (HSG.out.kept K)
  clear K
  refine (less_any gv sg G _ _ HGV.out HSG.out (by omega) (by omega)).mono ?_
  rintro e w24 ⟨lg, rfl, xHLG, K⟩
  replace N0 := hid (N0.out.kept K)
  replace N1 := hid (N1.out.kept K)
  replace N2 := hid (N2.out.kept K)
  replace HPV := hid (HPV.out.kept K)
  replace HGV := hid (HGV.out.kept K)
  replace HMM := hid (HMM.out.kept K)
  replace HSV := hid (HSV.out.kept K)
  replace HWZ := hid (HWZ.out.kept K)
  replace HAC := hid ((AccD.still _).kept HAC.out K)
  replace HVN := hid (HVN.out.kept K)
  replace HCW := hid (HCW.out.kept K)
  replace HSG := hid (HSG.out.kept K)
  have HLG := hid xHLG
  replace M := M.call K
  refine ⟨_, rfl, trivial, M, ?_⟩
  clear K xHLG
  simp only [Act.put, List.setIfInBounds_toArray, List.set_cons_zero, List.set_cons_succ]
  refine E_nil ?_
  intro wq K M
  replace N0 := hid (N0.out.kept K)
  replace N1 := hid (N1.out.kept K)
  replace N2 := hid (N2.out.kept K)
  replace HPV := hid (HPV.out.kept K)
  replace HGV := hid (HGV.out.kept K)
  replace HMM := hid (HMM.out.kept K)
  replace HSV := hid (HSV.out.kept K)
  replace HWZ := hid (HWZ.out.kept K)
  replace HAC := hid ((AccD.still _).kept HAC.out K)
  replace HVN := hid (HVN.out.kept K)
  replace HCW := hid (HCW.out.kept K)
  replace HSG := hid (HSG.out.kept K)
  replace HLG := hid (HLG.out.kept K)
  clear K
  refine S_seg 8 11 (by kernel_rfl) (by decide) ?_
  simp only [List.take_succ_cons, List.take_zero, List.drop_zero, List.drop_succ_cons, Nat.sub_zero, Nat.reduceSub]
  have hlg1 := HLG.out.one
  go_wp2_with ((with_reducible apply W_stV (b := fb) (o := 0 + 4) (v := lg)); rfl; rfl; exact hlg1; exact M.r3; exact size89; exact z4; intro w25 K hr3; replace N0 := hid (N0.out.keptC K M.r3 HNB.out); replace N1 := hid (N1.out.keptC K M.r3 HNB.out); replace N2 := hid (N2.out.keptC K M.r3 HNB.out); replace HPV := hid (HPV.out.keptC K M.r3 HNB.out); replace HGV := hid (HGV.out.keptC K M.r3 HNB.out); replace HMM := hid (HMM.out.keptC K M.r3 HNB.out); replace HSV := hid (HSV.out.keptC K M.r3 (by decide)); replace HWZ := hid (HWZ.out.keptC K M.r3 (by decide)); replace HAC := hid ((AccD.still _).keptC HAC.out K M.r3 HNB.out (.inr rfl)); replace HVN := hid (HVN.out.keptC K M.r3 HNB.out); replace HCW := hid (HCW.out.keptC K M.r3 HNB.out); replace HSG := hid (HSG.out.keptC K M.r3 HNB.out); replace HLG := hid (HLG.out.keptC K M.r3 HNB.out); replace M := Mem.callPut (L1 := [_, _, _]) M (Or.inl (by simp)) K hr3; clear K hr3; simp only [List.cons_append, List.nil_append] at M)
  refine S_done ?_
  go_wp2_with fail
  have HNB2 := hid (not_bytes_at (tc := 142) (cs := fs.setIfInBounds (0 + 4) lg) (i := 0 + 8) ((Array.getElem?_setIfInBounds_ne (by decide)).trans h7))
  have h7' : (fs.setIfInBounds (0 + 4) lg)[0 + 8]? = some (.slice p xs.length cp) := (Array.getElem?_setIfInBounds_ne (by decide)).trans h7
  refine S_region (by kernel_rfl) ?_
  replace N0 := hid (N0.out.kept (Kept.refl [] _).drew)
  replace N1 := hid (N1.out.kept (Kept.refl [] _).drew)
  replace N2 := hid (N2.out.kept (Kept.refl [] _).drew)
  replace HPV := hid (HPV.out.kept (Kept.refl [] _).drew)
  replace HMM := hid (HMM.out.kept (Kept.refl [] _).drew)
  replace HSV := hid (HSV.out.kept (Kept.refl [] _).drew)
  replace HWZ := hid (HWZ.out.kept (Kept.refl [] _).drew)
  replace HAC := hid ((AccD.still _).kept HAC.out (Kept.refl [] _).drew)
  replace HVN := hid (HVN.out.kept (Kept.refl [] _).drew)
  replace HCW := hid (HCW.out.kept (Kept.refl [] _).drew)
  replace HSG := hid (HSG.out.kept (Kept.refl [] _).drew)
  replace HLG := hid (HLG.out.kept (Kept.refl [] _).drew)
  refine E_stage 0 5 [0, 1, 2, 3, 4] (by kernel_rfl) M.drew ?_
  clear M
  simp only [List.filterMap_cons, List.filterMap_nil, List.getElem?_cons_zero, List.getElem?_cons_succ]
  ((with_reducible apply E_run); rfl; rfl; (intro w M; go_simp; (try go_ints); (try simp only [↓IntWalk.iteOmega]); (try with_reducible rfl)); simp only [Act.put, List.setIfInBounds_toArray, List.set_cons_zero, List.set_cons_succ])
  ((with_reducible apply E_run); rfl; rfl; (intro w M; go_simp; (try go_ints); (try simp only [↓IntWalk.iteOmega]); (try with_reducible rfl)); simp only [Act.put, List.setIfInBounds_toArray, List.set_cons_zero, List.set_cons_succ])
  ((with_reducible apply E_run); rfl; rfl; (intro w M; go_simp; (try go_ints); (try simp only [↓IntWalk.iteOmega]); (try with_reducible rfl)); simp only [Act.put, List.setIfInBounds_toArray, List.set_cons_zero, List.set_cons_succ])
  ((with_reducible apply E_run); rfl; rfl; (intro w M; go_simp; (try go_ints); (try simp only [↓IntWalk.iteOmega]); (try with_reducible rfl)); simp only [Act.put, List.setIfInBounds_toArray, List.set_cons_zero, List.set_cons_succ])
  ((with_reducible apply E_run (v := .agg (ha6.map n8).toArray)); rfl; rfl; (intro w M; exact run_loadX (n := 20) M.r0 rfl Salg.underlying45 rfl size45 (Nat.le_of_ble_eq_true (by kernel_rfl)) (show (frG 5 false sg vn cw nilS ha6 (ad 1) wnil).toArray.extract 12 (12 + 20) = _ by kernel_rfl)); simp only [Act.put, List.setIfInBounds_toArray, List.set_cons_zero, List.set_cons_succ])
  refine E_nil ?_
  intro wq K M
  replace N0 := hid (N0.out.kept K)
  replace N1 := hid (N1.out.kept K)
  replace N2 := hid (N2.out.kept K)
  replace HPV := hid (HPV.out.kept K)
  replace HMM := hid (HMM.out.kept K)
  replace HSV := hid (HSV.out.kept K)
  replace HWZ := hid (HWZ.out.kept K)
  replace HAC := hid ((AccD.still _).kept HAC.out K)
  replace HVN := hid (HVN.out.kept K)
  replace HCW := hid (HCW.out.kept K)
  replace HSG := hid (HSG.out.kept K)
  replace HLG := hid (HLG.out.kept K)
  clear K
  refine S_seg 5 6 (by kernel_rfl) (by decide) ?_
  simp only [List.take_succ_cons, List.take_zero, List.drop_zero, List.drop_succ_cons, Nat.sub_zero, Nat.reduceSub]
  go_wp2_with fail
  refine (warm_any c 119 _ wz la ha6 _ M.r2 (by kernel_rfl) HWZ.out ⟨rfl, small_ha6⟩ (by omega) (by decide)).mono ?_
  rintro e w26 ⟨r, wz2, rfl, K, k1, k2⟩
  rw [show (chN { E with vz := v1 } wz (.slice (some ⟨fb, 0, none⟩) 1 cap) rt).setIfInBounds 1 wz2 = (chN { E with vz := v1 } wz2 (.slice (some ⟨fb, 0, none⟩) 1 cap) rt) from by kernel_rfl] at k1
  replace N0 := hid (N0.out.keptC K M.r2 (chy_nb _ _ _ _))
  replace N1 := hid (N1.out.keptC K M.r2 (chy_nb _ _ _ _))
  replace N2 := hid (N2.out.keptC K M.r2 (chy_nb _ _ _ _))
  replace HPV := hid (HPV.out.keptC K M.r2 (chy_nb _ _ _ _))
  replace HMM := hid (HMM.out.keptC K M.r2 (chy_nb _ _ _ _))
  replace HSV := hid (HSV.out.keptC K M.r2 (by decide))
  replace HAC := hid ((AccD.still _).keptC HAC.out K M.r2 (chy_nb _ _ _ _) (.inl rfl))
  replace HVN := hid (HVN.out.keptC K M.r2 (chy_nb _ _ _ _))
  replace HCW := hid (HCW.out.keptC K M.r2 (chy_nb _ _ _ _))
  replace HSG := hid (HSG.out.keptC K M.r2 (chy_nb _ _ _ _))
  replace HLG := hid (HLG.out.keptC K M.r2 (chy_nb _ _ _ _))
  replace HWZ := hid k2
  replace M := Mem.callPut (L1 := [_, _]) M (Or.inl (by simp)) K k1
  clear K k1 k2
  simp only [List.cons_append, List.nil_append] at M
  go_wp2_with fail
  refine S_done ?_
  go_wp2_with ((with_reducible apply W_loadX (o := 12) (n := 20) (vs := (ha6.map n8).toArray)); rfl; exact M.r0; exact Salg.underlying45; rfl; exact size45; exact Nat.le_of_ble_eq_true (by kernel_rfl); exact (show (frG 5 false sg vn cw nilS ha6 (ad 1) wnil).toArray.extract 12 (12 + 20) = _ by kernel_rfl); simp only [Act.put, List.setIfInBounds_toArray, List.set_cons_zero, List.set_cons_succ])
  refine (taken_M c _ v1 (dPut ⟨ad 1, 1 + 1, da.B, da.ds⟩ false D) ha6 _ M.r2 (by kernel_rfl) HAC.out rfl HDN.out).mono ?_
  rintro e w27 ⟨rfl, K⟩
  replace N0 := hid (N0.out.kept K)
  replace N1 := hid (N1.out.kept K)
  replace N2 := hid (N2.out.kept K)
  replace HPV := hid (HPV.out.kept K)
  replace HMM := hid (HMM.out.kept K)
  replace HSV := hid (HSV.out.kept K)
  replace HWZ := hid (HWZ.out.kept K)
  replace HAC := hid ((AccD.still _).kept HAC.out K)
  replace HVN := hid (HVN.out.kept K)
  replace HCW := hid (HCW.out.kept K)
  replace HSG := hid (HSG.out.kept K)
  replace HLG := hid (HLG.out.kept K)
  replace M := M.call K
  clear K 
  go_wp2_with fail
  refine (wait_any fb 0 3 0 0 (fs.setIfInBounds (0 + 4) lg) _ nilS nilS xs _ M.r3 h7' HSV.out (nil_num _) (nil_num _) (by omega) (by omega)).mono ?_
  rintro e w29 ⟨r29, p', r6, r7, rfl, K, hr29, x1, x2, x3⟩
  replace N0 := hid (N0.out.keptC K M.r3 HNB2.out)
  replace N1 := hid (N1.out.keptC K M.r3 HNB2.out)
  replace N2 := hid (N2.out.keptC K M.r3 HNB2.out)
  replace HPV := hid (HPV.out.keptC K M.r3 HNB2.out)
  replace HMM := hid (HMM.out.keptC K M.r3 HNB2.out)
  replace HWZ := hid (HWZ.out.keptC K M.r3 (by decide))
  replace HAC := hid ((AccD.still _).keptC HAC.out K M.r3 HNB2.out (.inr rfl))
  replace HVN := hid (HVN.out.keptC K M.r3 HNB2.out)
  replace HCW := hid (HCW.out.keptC K M.r3 HNB2.out)
  replace HSG := hid (HSG.out.keptC K M.r3 HNB2.out)
  replace HLG := hid (HLG.out.keptC K M.r3 HNB2.out)
  replace HSV := hid x1
  have HR7 := hid x3
  have hr61 := x2.one
  replace M := Mem.callPut (L1 := [_, _, _]) M (Or.inl (by simp)) K hr29
  clear x1 x2 x3 K hr29
  simp only [List.cons_append, List.nil_append] at M
  obtain ⟨fs2, hfs2⟩ : ∃ fs2, fs2 = (((fs.setIfInBounds (0 + 4) lg).setIfInBounds (0 + 8) (.slice p' (xs.length - 3) (xs.length - 3))).setIfInBounds (0 + 6) r6).setIfInBounds (0 + 7) r7 := ⟨_, rfl⟩
  rw [← hfs2] at M
  have HFS2 := hid hfs2
  clear hfs2
  have hs2 : fs2.size = cap * 60 := by rw [HFS2.out]; simp only [Array.size_setIfInBounds]; exact hz
  have HNB3 := hid (not_bytes_at (tc := 142) (cs := fs2) (i := 0 + 8) (p := p') (n := xs.length - 3) (m := xs.length - 3) (by rw [HFS2.out, Array.getElem?_setIfInBounds_ne (by decide), Array.getElem?_setIfInBounds_ne (by decide), Array.getElem?_setIfInBounds_self_of_lt (by simp; omega)]))
  go_wp2_with ((with_reducible apply W_loadAll); rfl; exact M.r0; exact Salg.underlying142; rfl; exact (by kernel_rfl); simp only [Act.put, List.setIfInBounds_toArray, List.set_cons_zero, List.set_cons_succ])
  obtain ⟨EE, hEE⟩ : ∃ EE : XEnv, EE = { E with vz := v1 } := ⟨_, rfl⟩
  have HC := hid (show ChY w29 c { E with vz := v1 } (.slice (some ⟨fb, 0, none⟩) 1 cap) rt (adWith la ha6) from ⟨wz2, M.r2, HWZ.out⟩)
  have HA2 := hid (show AccD (dPut ⟨ad 1, 1 + 1, da.B, da.ds⟩ false D) w29 (XEnv.vz { E with vz := v1 }) from HAC.out)
  rw [← hEE] at HC HA2
  have hmd2 : EE.md = nilS := by rw [hEE]; exact hmd
  have HEE := hid hEE
  have HROW := hid M.r3
  have HMK := hid M.kept
  have HXE : Hid (Hard [c] w29) := hard1 M.r2 (.inl rfl) (chy_nb _ _ _ _)
  clear hEE HAC HWZ M
  refine (enterC1 c fb cap 5 1 ha6 false fs2 _ EE rt sg vn cw nilS (AccD (dPut ⟨ha6, d2.N, d2.B + V, d2.ds⟩ false (dPut ⟨ad 1, ds0.N, ds0.B - V, ds0.ds⟩ false (dPut ⟨ha6, 1, 0, []⟩ false (dPut ⟨ad 1, 1 + 1, da.B, da.ds⟩ false D))))) _ HC.out (AccD.still _) HROW.out HNB3.out hs2 hcap hc1 hsg1 hvn1 hcw1 rfl (by decide) (fun w => creates_five w) rfl small_ha6 hmd2 (AccD (dPut ⟨ha6, 1, 0, []⟩ false (dPut ⟨ad 1, 1 + 1, da.B, da.ds⟩ false D))) (AccD.still _) (fun w' K' => clone_D c EE _ rt _ [] (dPut ⟨ad 1, 1 + 1, da.B, da.ds⟩ false D) w' (HC.out.kept K') ((AccD.still _).kept HA2.out K') h01 (by omega) (adWith_pos _ _) (Nat.le_trans (adWith_len _ _) (by omega)) (.inl hmd2)) (fun w' n1 K' hn1 => setNonce_Y c EE _ rt n1 _ (dPut ⟨ad 1, 1 + 1, da.B, da.ds⟩ false D) ha6 w' (HC.out.kept K') ((AccD.still _).kept HA2.out K') rfl small_ha6 hn1 HDN.out (by omega)) (fun w' vz1 md K' hC' hA' => move_V c V (ad 1) ha6 _ _ rt vn _ (dPut ⟨ha6, 1, 0, []⟩ false (dPut ⟨ad 1, 1 + 1, da.B, da.ds⟩ false D)) ds0 d2 w' hC' hA' rfl rfl (ad_small (by decide)) small_ha6 HDS.out hsB hsV (HVN.out.keptN K' HXE.out) HV0.out HN1.out HN2.out HD2.out hB2 (by omega) hll1)).mono ?_
  rintro e w30 ⟨r30, fb', cap', cur, a0, a1, a3, a6, vz, md, rfl, y0, y1, y2, y3, y4, y5, y6, y6b, y6c, y7a, y7b, y7c, y7d, y8, yk⟩
  have hX : Hard [c, fb] w29 := by
    obtain ⟨wz, c1, _⟩ := HC.out
    intro x hx
    simp only [List.mem_cons, List.mem_singleton, List.not_mem_nil, or_false] at hx
    rcases hx with rfl | rfl
    · exact ⟨_, 119, c1, .inl rfl, chy_nb _ _ _ _⟩
    · exact ⟨_, 142, HROW.out, .inr rfl, HNB3.out⟩
  have Y1 := hid y1
  have Y2 := hid y2
  have Y4 := hid y4
  have Y5 := hid y5
  have Y8 := hid y8
  have YK := hid yk
  have HHX := hid hX
  clear y1 y2 y4 y5 y8 yk hX HC HA2
  go_wp2_with fail
  go_end0
  have e2 : ∀ k, k ≠ 0 + 4 → k ≠ 0 + 6 → k ≠ 0 + 7 → k ≠ 0 + 8 → fs2[k]? = fs[k]? := by
    intro k k4 k6 k7 k8
    rw [HFS2.out, Array.getElem?_setIfInBounds_ne (by omega), Array.getElem?_setIfInBounds_ne (by omega), Array.getElem?_setIfInBounds_ne (by omega), Array.getElem?_setIfInBounds_ne (by omega)]
  have hX := HHX.out
  have hnl : xs.length - 3 = 0 := by omega
  have HSV0 : RowV w30 89 (.slice p' (xs.length - 3) (xs.length - 3)) [] := by
    have := HSV.out.keptN YK.out hX
    rw [hnl, List.take_zero] at this
    rw [hnl]
    exact this
  have hE := HEE.out
  have HF1 := Y1.out
  rw [hE] at HF1
  refine ⟨_, fb', cap', cur, pv, lg, .slice p' (xs.length - 3) (xs.length - 3), r7, cw, sg, vn, a0, a1, a3, a6, vz, md, rfl, y0, HF1, Y2.out, y3.imp id (fun h => Nat.le_trans HMK.out.size h), ?_, ?_, ?_, ?_, ?_, ?_, ⟨r6, ?_, hr61⟩, ⟨HPV.out.keptN YK.out hX, HLG.out.keptN YK.out hX, HSV0, ⟨rfl, fun k v n i1 => by simp at i1⟩⟩, HR7.out.keptN YK.out hX, Y5.out, HSG.out.keptN YK.out hX, HCW.out.keptN YK.out hX, HVN.out.keptN YK.out hX, y6, y6b, y6c, ⟨y7a, y7b, y7c, y7d⟩, Y8.out, HMK.out.trans YK.out⟩
  · intro k k60 k3 k4 k6 k7 k8 k9
    rw [Y4.out k k60, e2 k (by omega) (by omega) (by omega) (by omega)]
    exact HX2.out k (by omega) (by omega) (by omega) (by omega)
  · rw [Y4.out (0 + 3) (by decide), e2 (0 + 3) (by decide) (by decide) (by decide) (by decide)]
    exact h3
  · rw [Y4.out (0 + 4) (by decide), HFS2.out, Array.getElem?_setIfInBounds_ne (by decide), Array.getElem?_setIfInBounds_ne (by decide), Array.getElem?_setIfInBounds_ne (by decide), Array.getElem?_setIfInBounds_self_of_lt z4]
  · rw [Y4.out (0 + 7) (by decide), HFS2.out, Array.getElem?_setIfInBounds_self_of_lt (by simp; omega)]
  · rw [Y4.out (0 + 8) (by decide), HFS2.out, Array.getElem?_setIfInBounds_ne (by decide), Array.getElem?_setIfInBounds_ne (by decide), Array.getElem?_setIfInBounds_self_of_lt (by simp; omega)]
  · rw [Y4.out (0 + 9) (by decide), e2 (0 + 9) (by decide) (by decide) (by decide) (by decide)]
    exact h9m
  · rw [Y4.out (0 + 6) (by decide), HFS2.out, Array.getElem?_setIfInBounds_ne (by decide), Array.getElem?_setIfInBounds_self_of_lt (by simp; omega)]
end Go.Proofs.YgcsalGreat

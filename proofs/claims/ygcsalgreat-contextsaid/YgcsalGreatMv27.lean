/-
  The walks of law.copyBytes (any row of bytes), law.Stage (one code), obs.EnvOK, law.specOf's parts.
-/
import Derived.Test.YgcsalGreatMv21
import Derived.Test.YgcsalGreatMv14
set_option linter.unusedSimpArgs false
set_option linter.unusedVariables false
namespace Go.Own
def balB : List Nat := List.replicate 15 0 ++ 1 :: List.replicate 16 0
def oaA (u : Value) : Oa := ⟨ad 1, 1, List.replicate 32 0, u⟩
def oaB : Oa := ⟨ad 240, 0, balB, nilS⟩
theorem oaA_ok {w : World} {u : Value} {ds : List Nat} (h : NatV w u ds) (hl : ds.length ≤ 256) : (oaA u).Ok := by
  obtain ⟨p, c, rfl, _⟩ := h
  exact ⟨rfl, by intro x hx; simp [oaA, ad] at hx; omega, rfl, by intro x hx; simp [oaA] at hx; omega, ⟨_, _, _, rfl, hl, .inl (by simp [oaA])⟩⟩
theorem oaB_ok : oaB.Ok := ⟨rfl, by intro x hx; simp [oaB, ad] at hx; omega, rfl, by intro x hx; simp [oaB, balB] at hx; omega, ⟨_, _, _, rfl, by decide, .inr ⟨rfl, rfl, by decide⟩⟩⟩
theorem one_list {l : List Value} (h : (l.all fun u => u.oneCell') = true) : ∀ u ∈ l, u.oneCell' = true := fun u hu => List.all_eq_true.1 h u hu
theorem oaA_set (u : Value) : (oaA nilS).cells.toArray.setIfInBounds 53 u = (oaA u).cells.toArray := by kernel_rfl
theorem oaA_size (u : Value) : (oaA u).cells.toArray.size = 55 := by kernel_rfl
theorem oaA_one {u : Value} (h : u.oneCell' = true) : ∀ x ∈ (oaA u).cells, x.oneCell' = true := by
  have : ((oaA u).cells.all fun u => u.oneCell') = true := by
    have e : ((oaA u).cells.all fun u => u.oneCell') = (u.oneCell' && true) := by kernel_rfl
    rw [e, h]; rfl
  exact one_list this
theorem cells_news (l : List Value) : ∀ (j : Nat) (x : Value), l[j]? = some x → l.toArray[0 + j]? = some x := by intro j x hj; simpa using hj
end Go.Own
namespace Go.Proofs.YgcsalGreat
open Go.RowKit Go.Own
theorem size123 : (Salg.prog.info? 123).map (·.size) = some 55 := by kernel_rfl
theorem size40 : (Salg.prog.info? 40).map (·.size) = some 1 := by kernel_rfl
theorem info123 : (Salg.prog.info? 123).map (fun i => (i.zero, i.size, i.bytes)) = some (some (.agg (z8 20 ++ [n64 0] ++ z8 32 ++ [nilS, nilS]).toArray), 55, 112) := by kernel_rfl
theorem zero123 : ((Salg.prog.info? 123).bind (·.zero)) = some (.agg (z8 20 ++ [n64 0] ++ z8 32 ++ [nilS, nilS]).toArray) := by kernel_rfl
theorem zero123s : ((Salg.prog.info? 123).bind (·.zero)).isSome = true := by kernel_rfl

set_option maxHeartbeats 4000000 in
set_option maxRecDepth 100000 in
theorem copyBytes_row (v : Value) (ds : List Nat) (w : World) (hv : RowV w 5 v (ds.map n8)) (h0 : 0 < ds.length) (hl : ds.length ≤ 1000) (hs : Small ds) : Calls Salg.prog 23 #[v] w fun e w' => ∃ u, e = .returned u ∧ NatV w' u ds ∧ Kept [] w w' := by
  have M := Mem.start w []
  obtain ⟨g, cap, cur, rfl, hr, hc, hx⟩ := hv.pos (by simpa using h0)
  have HS := hid hs
  obtain ⟨n, hn⟩ : ∃ n, n = ds.length := ⟨_, rfl⟩
  have hle : (ds.map n8).length = n := by simp [hn]
  have HLE : Hid ((ds.map n8).length = min n n) := by show _ = _; rw [hle]; simp
  have HX : Hid (∀ (j : Nat) (u : Value), (ds.map n8)[j]? = some u → cur[0 + j]? = some u) := by
    intro j u hj
    have hlt := (List.getElem?_eq_some_iff.1 hj).1
    rw [Nat.zero_add, hx j hlt]
    exact hj
  have HON : Hid (∀ v ∈ ds.map n8, v.oneCell' = true) := by
    intro v hv
    obtain ⟨x, _, rfl⟩ := List.mem_map.1 hv
    rfl
  have HFI : Hid (0 + (ds.map n8).length ≤ ((List.replicate n 0).map n8).toArray.size) := by show _ ≤ _; rw [hle]; simp
  have HSP : Hid ((((List.replicate n 0).map n8).toArray.toList.take 0 ++ ds.map n8 ++ ((List.replicate n 0).map n8).toArray.toList.drop (0 + (ds.map n8).length)) = ds.map n8) := by show _ = _; rw [hle]; simp
  have HK : Hid (ds.length = n) := hn.symm
  rw [hle]
  rw [← hn] at hl h0
  clear hv hx hs hc hle hn
  go_enter Salg.func23, Salg.ntmps23
  go_wp2_with (first
    | ((with_reducible apply L_run); rfl; exact run_isnil rfl rfl Salg.underlying40 guard40; (try simp only [Option.isNone_none, Option.isNone_some]); simp only [Act.put, List.setIfInBounds_toArray, List.set_cons_zero, List.set_cons_succ])
    | ((with_reducible apply W_make8 (n := n) M); rfl; rfl; rfl; rfl; omega; exact Salg.underlying40; exact info5; clear M; intro b1 w2 hb1 M; simp only [Act.put, List.setIfInBounds_toArray, List.set_cons_zero, List.set_cons_succ])
    | ((with_reducible apply W_copyAt (b := b1) (o := 0) (b' := g) (so := 0) (news := ds.map n8) (cur := ((List.replicate n 0).map n8).toArray) (t := 5)); rfl; rfl; exact Salg.underlying40; exact size5; exact M.r0; exact M.kept.row hr (by simp); exact HLE.out; exact HX.out; exact HFI.out; exact HON.out; intro w4 K hr4; rw [HSP.out] at hr4; replace M := Mem.callPut (L1 := []) M (Or.inr hb1) K hr4; clear K hr4; simp only [Act.put, List.setIfInBounds_toArray, List.set_cons_zero, List.set_cons_succ]))
  go_ret
  refine ⟨_, rfl, ?_, M.kept⟩
  have := NatV.row M.r0 HS.out (by rw [HK.out]; omega)
  rw [HK.out] at this
  exact this

set_option maxHeartbeats 4000000 in
set_option maxRecDepth 100000 in
theorem stage_one (b : Nat) (cv : Value) (ds : List Nat) (w : World) (hb : w.heap[b]? = some (.cells #[cv] 40 (0, 0))) (hv : RowV w 5 cv (ds.map n8)) (h0 : 0 < ds.length) (hl : ds.length ≤ 256) (hs : Small ds) :
    Calls Salg.prog 14 #[.slice (some ⟨b, 0, none⟩) 1 1] w fun e w' => ∃ r u, e = .returned r ∧ OasV w' r [oaA u, oaB] ∧ NatV w' u ds ∧ Kept [] w w' := by
  have M := Mem.start w []
  have HCB := hid (fun w' (K : Kept [] w w') => copyBytes_row cv ds w' (hv.kept K) h0 (by omega) hs)
  obtain ⟨g, cap, cur, rfl, _⟩ := hv.pos (by simpa using h0)
  have hle : (ds.map n8).length = ds.length := by simp
  rw [hle] at hb HCB
  have HLN : Hid (ds.length ≤ 256) := hl
  clear hv hs hle
  generalize hk : ds.length = n at *
  have HK := hid hk
  have d1 : decide ((n : Int) ≤ 256) = true := by simp; omega
  clear hk
  go_enter Salg.func14, Salg.ntmps14
  go_wp2_with fail
  go_loopw [3, 9] (fun sv iv wr => (iv = .int .i64 0 ∧ sv = nilS ∧ Mem w [] [] wr) ∨ (iv = .int .i64 1 ∧ ∃ (u : Value) (w7 : World) (base : Nat), NatV w7 u ds ∧ Kept [] w w7 ∧ Mem w7 [] [] wr ∧ w7.heap.size ≤ base ∧ base ≤ wr.heap.size ∧ wr.ownsRow base 123 55 sv 1 (oaA u).cells)) (fun _ iv _ => (1 - intOf iv).toNat)
  case atStart => exact .inl ⟨rfl, rfl, M⟩
  case round =>
    clear M
    rcases hrel with ⟨rfl, rfl, M⟩ | ⟨rfl, u, w7, base, xN, xK, M, hb1, hb2, xO⟩
    · go_wp2_with ((with_reducible apply W_loadCell); rfl; exact M.kept.row hb (by simp); exact rfl; exact Salg.underlying40; rfl; simp only [Act.put, List.setIfInBounds_toArray, List.set_cons_zero, List.set_cons_succ])
      refine (addrNo_any 1 _).mono ?_
      rintro e w2 ⟨rfl, K⟩
      replace M := M.call K
      clear K
      go_wp2_with (first
        | ((with_reducible apply L_allocA (d := 6) M); exact zero123; clear M; intro c1 w1 hc1 M; simp only [Act.put, List.setIfInBounds_toArray, List.set_cons_zero, List.set_cons_succ])
        | ((with_reducible apply W_storeK (b := c1) (vs := (oaA nilS).cells.toArray)); rfl; exact congrArg Value.agg (by kernel_rfl); exact M.r0; exact size123; rfl; exact oneL rfl; intro w3 K hr3; replace M := Mem.callPut (L1 := []) M (Or.inr hc1) K hr3; clear K hr3; simp only [List.nil_append] at M))
      refine (HCB.out _ M.kept).mono ?_
      rintro e w4 ⟨u, rfl, xHU, K⟩
      have HU := hid xHU
      replace M := M.call K
      clear K xHU
      have HU1 : Hid (u.oneCell' = true) := by obtain ⟨p, c, rfl, _⟩ := HU.out; rfl
      have HNB := hid (not_bytes_at (cs := (oaA nilS).cells.toArray) (tc := 123) (i := 53) rfl)
      go_wp2_with (first
        | ((with_reducible apply W_stV (b := c1) (o := 53) (v := u)); rfl; rfl; exact HU1.out; exact M.r0; exact size40; (rw [oaA_size]; decide); intro w7 K hr3; rw [oaA_set] at hr3; have HU7 := hid (HU.out.keptC K M.r0 HNB.out); replace M := Mem.callPut (L1 := []) M (Or.inr hc1) K hr3; clear K hr3; simp only [List.nil_append] at M; have HC1 := hid M.r0; have HK7 := hid M.kept; replace M := Mem.start w7 [])
        | ((with_reducible apply W_loadAll); rfl; exact M.kept.row HC1.out (by simp); exact Salg.underlying123; rfl; (rw [oaA_size]; exact size123); simp only [Act.put, List.setIfInBounds_toArray, List.set_cons_zero, List.set_cons_succ])
        | ((with_reducible apply W_buildIt (vs := (oaA u).cells.toArray) (s := 55) M); rfl; rfl; exact Salg.underlying38; exact size123; exact zero123s; rfl; decide; decide; clear M; intro bn w6 hbn hbn2 KB M; have hsz6 := KB.size;  clear KB; simp only [Act.put, List.setIfInBounds_toArray, List.set_cons_zero, List.set_cons_succ])
        | ((with_reducible apply W_appendIt (base := w7.heap.size) (n := 0) (m := 1) (s := 55) (bn := bn) (so := 0) (news := (oaA u).cells) (cs := ((oaA u).cells).toArray) M); exact info123; exact Salg.underlying38; rfl; decide; decide; rfl; rfl; exact own_nil _ _ _ _; decide; exact M.r0; rfl; exact cells_news _; exact (oaA_one HU1.out); exact Nat.le_refl _; exact M.kept.size; exact (by intro p _ h; cases h); clear M; intro VV w8 M xO hb3 KA; have HOWN := hid xO; clear xO; clear KA; simp only [Act.put, List.setIfInBounds_toArray, List.set_cons_zero, List.set_cons_succ]))
      go_roundw
      case rel => exact .inr ⟨by go_num, u, w7, w7.heap.size, HU7.out, HK7.out, M.tail, Nat.le_refl _, hb3, HOWN.out⟩
      case measure => decide
    · have HU := hid xN
      have HK7 := hid xK
      have HO := hid xO
      clear xN xK xO
      go_wp2_with fail
      refine (sender_any _).mono ?_
      rintro e w2 ⟨rfl, K⟩
      replace HO := hid (own_kept HO.out K)
      replace hb2 := Nat.le_trans hb2 K.size
      replace M := M.call K
      clear K
      go_wp2_with (first
        | ((with_reducible apply W_buildIt (vs := oaB.cells.toArray) (s := 55) M); rfl; kernel_rfl; exact Salg.underlying38; exact size123; exact zero123s; rfl; decide; decide; clear M; intro bn w6 hbn hbn2 KB M; have hsz6 := KB.size; have HBN := hid (own_new HO.out hbn2); replace HO := hid (own_kept HO.out KB); replace hb2 := Nat.le_trans hb2 hsz6; clear KB; simp only [Act.put, List.setIfInBounds_toArray, List.set_cons_zero, List.set_cons_succ])
        | ((with_reducible apply W_appendIt (base := base) (n := 1) (m := 1) (s := 55) (bn := bn) (so := 0) (news := oaB.cells) (cs := (oaB.cells).toArray) M); exact info123; exact Salg.underlying38; rfl; decide; decide; rfl; rfl; exact HO.out; decide; exact M.r0; rfl; exact cells_news _; exact (one_list rfl); exact hb1; exact hb2; exact apart1 HBN.out; clear M; intro VV w8 M xO hb3 KA; have HOWN := hid xO; clear xO; clear KA; simp only [Act.put, List.setIfInBounds_toArray, List.set_cons_zero, List.set_cons_succ]))
      go_ret
      have HU8 := HU.out.kept M.kept
      refine ⟨_, u, rfl, ⟨own_mono HOWN.out (Nat.zero_le _), ?_⟩, HU8, HK7.out.trans M.kept⟩
      intro p hp
      simp at hp
      rcases hp with rfl | rfl
      · exact oaA_ok HU8 (by rw [HK.out]; exact HLN.out)
      · exact oaB_ok

set_option maxHeartbeats 4000000 in
set_option maxRecDepth 100000 in
theorem envOK_any (w : World) : Calls Salg.prog 160 #[.agg envL.toArray] w fun e w' => e = .returned (.bool true) ∧ Kept [] w w' := by
  have M := Mem.start w []
  go_enter Salg.func160, Salg.ntmps160
  go_wp2_with (first
    | ((with_reducible apply L_box M); rfl; clear M; intro b w1 hb M; simp only [Act.put, List.setIfInBounds_toArray, List.set_cons_zero, List.set_cons_succ])
    | ((with_reducible apply W_loadCell); rfl; exact M.r0; exact (show envL.toArray[119]? = some nilS by kernel_rfl); exact Salg.underlying54; rfl; simp only [Act.put, List.setIfInBounds_toArray, List.set_cons_zero, List.set_cons_succ]))
  go_ret
  exact ⟨rfl, M.kept⟩
end Go.Proofs.YgcsalGreat

/-
  The walk of yp.bitwise, one theorem an operation.
-/
import Derived.Test.YgcsalGreatYp7
import Derived.Test.YgcsalGreatPlainM
set_option linter.unusedSimpArgs false
set_option linter.unusedVariables false
namespace Go.Own
def bwl (f : Nat → Nat → Nat) (ds es : List Nat) (i : Nat) : List Nat := (List.range i).map (fun j => f (ds.getD j 0) (es.getD j 0)) ++ List.replicate (32 - i) 0
theorem bwl_length {f : Nat → Nat → Nat} {ds es : List Nat} {i : Nat} (h : i ≤ 32) : (bwl f ds es i).length = 32 := by simp [bwl]; omega
theorem bwl_set {f : Nat → Nat → Nat} {ds es : List Nat} {i : Nat} (h : i < 32) : (bwl f ds es i).set i (f (ds.getD i 0) (es.getD i 0)) = bwl f ds es (i + 1) := by
  unfold bwl
  rw [List.set_append_right _ _ (by simp), List.range_succ, List.map_append, List.append_assoc]
  congr 1
  rw [show 32 - i = (32 - (i + 1)) + 1 by omega, List.replicate_succ]
  simp
def pad (ds : List Nat) : List Nat := ds ++ List.replicate (32 - ds.length) 0
theorem pad_length {ds : List Nat} (h : ds.length ≤ 32) : (pad ds).length = 32 := by simp [pad]; omega
theorem pad_val (ds : List Nat) : val (pad ds) = val ds := by rw [pad, val_append, val_replicate, Nat.mul_zero, Nat.add_zero]
theorem pad_small {ds : List Nat} (h : Small ds) : Small (pad ds) := h.append (small_replicate _)
theorem pad_get {ds : List Nat} (hd : ds.length ≤ 32) {i : Nat} (hi : i < 32) : (pad ds)[i]? = some (ds.getD i 0) := by
  unfold pad
  rcases Nat.lt_or_ge i ds.length with h | h
  · rw [List.getElem?_append_left h, getD_get h]; exact List.getElem?_eq_getElem _
  · rw [List.getElem?_append_right h, List.getElem?_replicate, if_pos (by omega), List.getD_eq_getElem?_getD, List.getElem?_eq_none h]; rfl
theorem bwl_zip {f : Nat → Nat → Nat} {ds es : List Nat} (hd : ds.length ≤ 32) (he : es.length ≤ 32) : bwl f ds es 32 = List.zipWith f (pad ds) (pad es) := by
  apply List.ext_getElem?
  intro i
  rw [List.getElem?_zipWith]
  rcases Nat.lt_or_ge i 32 with h | h
  · rw [pad_get hd h, pad_get he h]
    simp [bwl, h]
  · rw [List.getElem?_eq_none (by rw [bwl_length (Nat.le_refl _)]; exact h), List.getElem?_eq_none (by rw [pad_length hd]; exact h)]
theorem bwl_op {f : Nat → Nat → Nat} {g : Bool → Bool → Bool} (hf : ∀ x y j, (f x y).testBit j = g (x.testBit j) (y.testBit j)) (hg : g false false = false) {ds es : List Nat} (hd : ds.length ≤ 32) (he : es.length ≤ 32) (hs : Small ds) (hs' : Small es) :
    val (bwl f ds es 32) = f (val ds) (val es) ∧ Small (bwl f ds es 32) := by
  rw [bwl_zip hd he]
  have := val_op hf hg (xs := pad ds) (ys := pad es) (by rw [pad_length hd, pad_length he]) (pad_small hs) (pad_small hs')
  rwa [pad_val, pad_val] at this
theorem ones_val : val (List.replicate 32 255) = 2 ^ 256 - 1 := by decide
theorem bwl_not {ds : List Nat} (es : List Nat) (hd : ds.length ≤ 32) (hs : Small ds) : val (bwl (fun x _ => 255 - x) ds es 32) = 2 ^ 256 - 1 - val ds ∧ Small (bwl (fun x _ => 255 - x) ds es 32) := by
  have e : bwl (fun x _ => 255 - x) ds es 32 = List.zipWith (fun x y => x ^^^ y) (pad ds) (List.replicate 32 255) := by
    apply List.ext_getElem?
    intro i
    rw [List.getElem?_zipWith]
    rcases Nat.lt_or_ge i 32 with h | h
    · rw [pad_get hd h, List.getElem?_replicate, if_pos h]
      have hx : ds.getD i 0 < 256 := by
        rcases Nat.lt_or_ge i ds.length with h' | h'
        · rw [getD_get h']; exact hs.get h'
        · rw [List.getD_eq_getElem?_getD, List.getElem?_eq_none h']; decide
      have := xor_ones (k := 8) (a := ds.getD i 0) hx
      have h2 : ds.getD i 0 ^^^ 255 = 255 - ds.getD i 0 := this
      simp only [bwl, Nat.sub_self, List.replicate_zero, List.append_nil]
      rw [List.getElem?_map, List.getElem?_range h]
      show some (255 - ds.getD i 0) = some (ds.getD i 0 ^^^ 255)
      rw [h2]
    · rw [List.getElem?_eq_none (by rw [bwl_length (Nat.le_refl _)]; exact h), List.getElem?_eq_none (by rw [pad_length hd]; exact h)]
  rw [e]
  obtain ⟨h1, h2⟩ := val_op xor_bits rfl (xs := pad ds) (ys := List.replicate 32 255) (by rw [pad_length hd]; simp) (pad_small hs) (by intro x hx; rw [List.mem_replicate] at hx; omega)
  refine ⟨?_, h2⟩
  rw [h1, pad_val, ones_val]
  have hl := val_lt hs
  exact xor_ones (k := 256) (Nat.lt_of_lt_of_le hl (by
    rw [show (2 : Nat) ^ 256 = 256 ^ 32 from by decide]
    exact Nat.pow_le_pow_right (by decide) hd))
end Go.Own
namespace Go.Proofs.YgcsalGreat
open Go.RowKit Go.Own
theorem not8 {a : Nat} (ha : a < 256) : bits .xor .u8 IntKind.u8.max (a : Int) = ((255 - a : Nat) : Int) := by
  have h := u8_xor_nat 255 a (by decide) ha
  have e : (IntKind.u8.max : Int) = ((255 : Nat) : Int) := rfl
  rw [e, h, Nat.xor_comm]
  congr 1
  exact xor_ones (k := 8) ha

set_option maxHeartbeats 2000000 in
set_option maxRecDepth 100000 in
theorem bitwise_and (v u : Value) (X Y : Nat) (w : World) (hv : NumV w v X) (hu : NumV w u Y) (hX : X < 2 ^ 256) (hY : Y < 2 ^ 256) :
    Calls Salg.prog 150 #[.int .u8 22, v, u] w fun e w' => ∃ r, e = .returned r ∧ NumV w' r (X &&& Y) ∧ Kept [] w w' := by
  have M := Mem.start w []
  obtain ⟨ds, ⟨p, c, rfl, hc, hc', hd, hs⟩, hval, hn⟩ := hv.short (k := 32) (by rw [show (256 : Nat) ^ 32 = 2 ^ 256 from by decide]; exact hX)
  obtain ⟨es, ⟨q, ec, rfl, hec, hec', hed, hs2⟩, hval2, hm⟩ := hu.short (k := 32) (by rw [show (256 : Nat) ^ 32 = 2 ^ 256 from by decide]; exact hY)
  have HLAW := hid (bwl_op and_bits rfl hn hm hs hs2)
  rw [hval, hval2] at HLAW
  have HS := hid hs
  have HS2 := hid hs2
  have HDD := hid hd
  have HED := hid hed
  clear hv hu hX hY hval hval2 hs hs2 hd hed
  have HN : Hid (ds.length = ds.length) := hid rfl
  obtain ⟨n, hnn⟩ : ∃ n, n = ds.length := ⟨_, rfl⟩
  obtain ⟨m, hmm⟩ : ∃ m, m = es.length := ⟨_, rfl⟩
  rw [← hnn] at hc hn ⊢
  rw [← hmm] at hec hm ⊢
  have HNN := hid hnn
  have HMM := hid hmm
  clear hnn hmm HN
  go_enter Salg.func150, Salg.ntmps150
  go_wp2_with ((with_reducible apply W_make8 (n := 32) M); rfl; rfl; omega; omega; omega; exact Salg.underlying89; exact info5; clear M; intro b1 w2 hb1 M; simp only [Act.put, List.setIfInBounds_toArray, List.set_cons_zero, List.set_cons_succ])
  go_loopw [14] (fun iv wr => ∃ i : Nat, i ≤ 32 ∧ iv = .int .i64 i ∧ Mem w [] [(b1, R8 5 (bwl (fun x y => x &&& y) ds es i))] wr) (fun iv _ => (32 - intOf iv).toNat)
  case atStart => exact ⟨0, by omega, rfl, M⟩
  case round =>
    clear M
    obtain ⟨i, hi, rfl, M⟩ := hrel
    rcases Nat.lt_or_ge i 32 with hlt | hge
    · have HST : Hid ((bwl (fun x y => x &&& y) ds es i).set i (ds.getD i 0 &&& es.getD i 0) = bwl (fun x y => x &&& y) ds es (i + 1)) := bwl_set (f := (fun x y => x &&& y)) (ds := ds) (es := es) hlt
      have hbl := bwl_length (f := (fun x y => x &&& y)) (ds := ds) (es := es) hi
      rcases Nat.lt_or_ge i n with h1 | h1
      · have h1' : i < ds.length := by rw [← HNN.out]; exact h1
        obtain ⟨b, t, cs, hpe, hr, hpre⟩ := HDD.out.at h1'
        have hg : cs[i]? = some (ds.getD i 0) := by rw [getD_get h1']; exact pre_get hpre h1'
        have hx : ds.getD i 0 < 256 := by rw [getD_get h1']; exact HS.out.get h1'
        subst hpe
        clear hpre h1'
        rcases Nat.lt_or_ge i m with h2 | h2
        · have h2' : i < es.length := by rw [← HMM.out]; exact h2
          obtain ⟨b', t', cs', hpe', hr', hpre'⟩ := HED.out.at h2'
          have hg' : cs'[i]? = some (es.getD i 0) := by rw [getD_get h2']; exact pre_get hpre' h2'
          have hx' : es.getD i 0 < 256 := by rw [getD_get h2']; exact HS2.out.get h2'
          subst hpe'
          clear hpre' h2'
          go_wp2_with (first
            | ((with_reducible apply W_loadCell); rfl; (first | with_reducible exact M.r0 | with_reducible exact M.r1 | with_reducible exact M.r2 | with_reducible exact M.r3 | with_reducible exact M.r4 | with_reducible exact M.r5 | with_reducible exact M.r6 | assumption | exact M.kept.row (by assumption) (by simp)); (first | exact get_map (by assumption) | exact get_map rfl | rfl); exact Salg.underlying5; rfl; simp only [Act.put, List.setIfInBounds_toArray, List.set_cons_zero, List.set_cons_succ])
            | ((with_reducible apply W_st8K (b := b1) (o := i) (m := (ds.getD i 0) &&& (es.getD i 0))); rfl; rfl; exact u8_and_nat (ds.getD i 0) (es.getD i 0) hx hx'; exact M.r0; exact size5; (rw [hbl]; exact hlt); intro w3 K hr3; replace M := Mem.callPut (L1 := []) M (Or.inr (by assumption)) K hr3; clear K hr3; simp only [List.cons_append, List.nil_append] at M))
          rw [HST.out] at M
          go_roundw
          case rel => exact ⟨i + 1, by omega, by go_num, M⟩
          case measure => simp [intOf]; omega
        · have hz' : es.getD i 0 = 0 := by rw [List.getD_eq_getElem?_getD, List.getElem?_eq_none (by rw [← HMM.out]; exact h2)]; rfl
          try rw [hz'] at HST
          clear hz'
          go_wp2_with (first
            | ((with_reducible apply W_loadCell); rfl; (first | with_reducible exact M.r0 | with_reducible exact M.r1 | with_reducible exact M.r2 | with_reducible exact M.r3 | with_reducible exact M.r4 | with_reducible exact M.r5 | with_reducible exact M.r6 | assumption | exact M.kept.row (by assumption) (by simp)); (first | exact get_map (by assumption) | exact get_map rfl | rfl); exact Salg.underlying5; rfl; simp only [Act.put, List.setIfInBounds_toArray, List.set_cons_zero, List.set_cons_succ])
            | ((with_reducible apply W_st8K (b := b1) (o := i) (m := (ds.getD i 0) &&& 0)); rfl; rfl; exact u8_and_nat (ds.getD i 0) 0 hx (by decide); exact M.r0; exact size5; (rw [hbl]; exact hlt); intro w3 K hr3; replace M := Mem.callPut (L1 := []) M (Or.inr (by assumption)) K hr3; clear K hr3; simp only [List.cons_append, List.nil_append] at M))
          rw [HST.out] at M
          go_roundw
          case rel => exact ⟨i + 1, by omega, by go_num, M⟩
          case measure => simp [intOf]; omega
      · have hz : ds.getD i 0 = 0 := by rw [List.getD_eq_getElem?_getD, List.getElem?_eq_none (by rw [← HNN.out]; exact h1)]; rfl
        rw [hz] at HST
        clear hz
        rcases Nat.lt_or_ge i m with h2 | h2
        · have h2' : i < es.length := by rw [← HMM.out]; exact h2
          obtain ⟨b', t', cs', hpe', hr', hpre'⟩ := HED.out.at h2'
          have hg' : cs'[i]? = some (es.getD i 0) := by rw [getD_get h2']; exact pre_get hpre' h2'
          have hx' : es.getD i 0 < 256 := by rw [getD_get h2']; exact HS2.out.get h2'
          subst hpe'
          clear hpre' h2'
          go_wp2_with (first
            | ((with_reducible apply W_loadCell); rfl; (first | with_reducible exact M.r0 | with_reducible exact M.r1 | with_reducible exact M.r2 | with_reducible exact M.r3 | with_reducible exact M.r4 | with_reducible exact M.r5 | with_reducible exact M.r6 | assumption | exact M.kept.row (by assumption) (by simp)); (first | exact get_map (by assumption) | exact get_map rfl | rfl); exact Salg.underlying5; rfl; simp only [Act.put, List.setIfInBounds_toArray, List.set_cons_zero, List.set_cons_succ])
            | ((with_reducible apply W_st8K (b := b1) (o := i) (m := 0 &&& (es.getD i 0))); rfl; rfl; exact u8_and_nat 0 (es.getD i 0) (by decide) hx'; exact M.r0; exact size5; (rw [hbl]; exact hlt); intro w3 K hr3; replace M := Mem.callPut (L1 := []) M (Or.inr (by assumption)) K hr3; clear K hr3; simp only [List.cons_append, List.nil_append] at M))
          rw [HST.out] at M
          go_roundw
          case rel => exact ⟨i + 1, by omega, by go_num, M⟩
          case measure => simp [intOf]; omega
        · have hz' : es.getD i 0 = 0 := by rw [List.getD_eq_getElem?_getD, List.getElem?_eq_none (by rw [← HMM.out]; exact h2)]; rfl
          try rw [hz'] at HST
          clear hz'
          go_wp2_with (first
            | ((with_reducible apply W_loadCell); rfl; (first | with_reducible exact M.r0 | with_reducible exact M.r1 | with_reducible exact M.r2 | with_reducible exact M.r3 | with_reducible exact M.r4 | with_reducible exact M.r5 | with_reducible exact M.r6 | assumption | exact M.kept.row (by assumption) (by simp)); (first | exact get_map (by assumption) | exact get_map rfl | rfl); exact Salg.underlying5; rfl; simp only [Act.put, List.setIfInBounds_toArray, List.set_cons_zero, List.set_cons_succ])
            | ((with_reducible apply W_st8K (b := b1) (o := i) (m := 0 &&& 0)); rfl; rfl; exact u8_and_nat 0 0 (by decide) (by decide); exact M.r0; exact size5; (rw [hbl]; exact hlt); intro w3 K hr3; replace M := Mem.callPut (L1 := []) M (Or.inr (by assumption)) K hr3; clear K hr3; simp only [List.cons_append, List.nil_append] at M))
          rw [HST.out] at M
          go_roundw
          case rel => exact ⟨i + 1, by omega, by go_num, M⟩
          case measure => simp [intOf]; omega
    · have hi' : i = 32 := by omega
      subst hi'
      have hbl := bwl_length (f := (fun x y => x &&& y)) (ds := ds) (es := es) hi
      obtain ⟨hlv, hls⟩ := HLAW.out
      go_wp2_with fail
      have HNV := NatV.row M.r0 hls (by omega)
      rw [hbl] at HNV
      refine (norm_any _ _ _ HNV).mono ?_
      rintro e w6 ⟨r, rfl, hr', K2⟩
      replace M := M.call K2
      go_wp2_with fail
      go_ret
      exact ⟨_, rfl, ⟨tr _, hr', tr_tight _, by rw [tr_val]; exact hlv⟩, M.kept⟩

set_option maxHeartbeats 2000000 in
set_option maxRecDepth 100000 in
theorem bitwise_or (v u : Value) (X Y : Nat) (w : World) (hv : NumV w v X) (hu : NumV w u Y) (hX : X < 2 ^ 256) (hY : Y < 2 ^ 256) :
    Calls Salg.prog 150 #[.int .u8 23, v, u] w fun e w' => ∃ r, e = .returned r ∧ NumV w' r (X ||| Y) ∧ Kept [] w w' := by
  have M := Mem.start w []
  obtain ⟨ds, ⟨p, c, rfl, hc, hc', hd, hs⟩, hval, hn⟩ := hv.short (k := 32) (by rw [show (256 : Nat) ^ 32 = 2 ^ 256 from by decide]; exact hX)
  obtain ⟨es, ⟨q, ec, rfl, hec, hec', hed, hs2⟩, hval2, hm⟩ := hu.short (k := 32) (by rw [show (256 : Nat) ^ 32 = 2 ^ 256 from by decide]; exact hY)
  have HLAW := hid (bwl_op or_bits rfl hn hm hs hs2)
  rw [hval, hval2] at HLAW
  have HS := hid hs
  have HS2 := hid hs2
  have HDD := hid hd
  have HED := hid hed
  clear hv hu hX hY hval hval2 hs hs2 hd hed
  have HN : Hid (ds.length = ds.length) := hid rfl
  obtain ⟨n, hnn⟩ : ∃ n, n = ds.length := ⟨_, rfl⟩
  obtain ⟨m, hmm⟩ : ∃ m, m = es.length := ⟨_, rfl⟩
  rw [← hnn] at hc hn ⊢
  rw [← hmm] at hec hm ⊢
  have HNN := hid hnn
  have HMM := hid hmm
  clear hnn hmm HN
  go_enter Salg.func150, Salg.ntmps150
  go_wp2_with ((with_reducible apply W_make8 (n := 32) M); rfl; rfl; omega; omega; omega; exact Salg.underlying89; exact info5; clear M; intro b1 w2 hb1 M; simp only [Act.put, List.setIfInBounds_toArray, List.set_cons_zero, List.set_cons_succ])
  go_loopw [14] (fun iv wr => ∃ i : Nat, i ≤ 32 ∧ iv = .int .i64 i ∧ Mem w [] [(b1, R8 5 (bwl (fun x y => x ||| y) ds es i))] wr) (fun iv _ => (32 - intOf iv).toNat)
  case atStart => exact ⟨0, by omega, rfl, M⟩
  case round =>
    clear M
    obtain ⟨i, hi, rfl, M⟩ := hrel
    rcases Nat.lt_or_ge i 32 with hlt | hge
    · have HST : Hid ((bwl (fun x y => x ||| y) ds es i).set i (ds.getD i 0 ||| es.getD i 0) = bwl (fun x y => x ||| y) ds es (i + 1)) := bwl_set (f := (fun x y => x ||| y)) (ds := ds) (es := es) hlt
      have hbl := bwl_length (f := (fun x y => x ||| y)) (ds := ds) (es := es) hi
      rcases Nat.lt_or_ge i n with h1 | h1
      · have h1' : i < ds.length := by rw [← HNN.out]; exact h1
        obtain ⟨b, t, cs, hpe, hr, hpre⟩ := HDD.out.at h1'
        have hg : cs[i]? = some (ds.getD i 0) := by rw [getD_get h1']; exact pre_get hpre h1'
        have hx : ds.getD i 0 < 256 := by rw [getD_get h1']; exact HS.out.get h1'
        subst hpe
        clear hpre h1'
        rcases Nat.lt_or_ge i m with h2 | h2
        · have h2' : i < es.length := by rw [← HMM.out]; exact h2
          obtain ⟨b', t', cs', hpe', hr', hpre'⟩ := HED.out.at h2'
          have hg' : cs'[i]? = some (es.getD i 0) := by rw [getD_get h2']; exact pre_get hpre' h2'
          have hx' : es.getD i 0 < 256 := by rw [getD_get h2']; exact HS2.out.get h2'
          subst hpe'
          clear hpre' h2'
          go_wp2_with (first
            | ((with_reducible apply W_loadCell); rfl; (first | with_reducible exact M.r0 | with_reducible exact M.r1 | with_reducible exact M.r2 | with_reducible exact M.r3 | with_reducible exact M.r4 | with_reducible exact M.r5 | with_reducible exact M.r6 | assumption | exact M.kept.row (by assumption) (by simp)); (first | exact get_map (by assumption) | exact get_map rfl | rfl); exact Salg.underlying5; rfl; simp only [Act.put, List.setIfInBounds_toArray, List.set_cons_zero, List.set_cons_succ])
            | ((with_reducible apply W_st8K (b := b1) (o := i) (m := (ds.getD i 0) ||| (es.getD i 0))); rfl; rfl; exact u8_or_nat (ds.getD i 0) (es.getD i 0) hx hx'; exact M.r0; exact size5; (rw [hbl]; exact hlt); intro w3 K hr3; replace M := Mem.callPut (L1 := []) M (Or.inr (by assumption)) K hr3; clear K hr3; simp only [List.cons_append, List.nil_append] at M))
          rw [HST.out] at M
          go_roundw
          case rel => exact ⟨i + 1, by omega, by go_num, M⟩
          case measure => simp [intOf]; omega
        · have hz' : es.getD i 0 = 0 := by rw [List.getD_eq_getElem?_getD, List.getElem?_eq_none (by rw [← HMM.out]; exact h2)]; rfl
          try rw [hz'] at HST
          clear hz'
          go_wp2_with (first
            | ((with_reducible apply W_loadCell); rfl; (first | with_reducible exact M.r0 | with_reducible exact M.r1 | with_reducible exact M.r2 | with_reducible exact M.r3 | with_reducible exact M.r4 | with_reducible exact M.r5 | with_reducible exact M.r6 | assumption | exact M.kept.row (by assumption) (by simp)); (first | exact get_map (by assumption) | exact get_map rfl | rfl); exact Salg.underlying5; rfl; simp only [Act.put, List.setIfInBounds_toArray, List.set_cons_zero, List.set_cons_succ])
            | ((with_reducible apply W_st8K (b := b1) (o := i) (m := (ds.getD i 0) ||| 0)); rfl; rfl; exact u8_or_nat (ds.getD i 0) 0 hx (by decide); exact M.r0; exact size5; (rw [hbl]; exact hlt); intro w3 K hr3; replace M := Mem.callPut (L1 := []) M (Or.inr (by assumption)) K hr3; clear K hr3; simp only [List.cons_append, List.nil_append] at M))
          rw [HST.out] at M
          go_roundw
          case rel => exact ⟨i + 1, by omega, by go_num, M⟩
          case measure => simp [intOf]; omega
      · have hz : ds.getD i 0 = 0 := by rw [List.getD_eq_getElem?_getD, List.getElem?_eq_none (by rw [← HNN.out]; exact h1)]; rfl
        rw [hz] at HST
        clear hz
        rcases Nat.lt_or_ge i m with h2 | h2
        · have h2' : i < es.length := by rw [← HMM.out]; exact h2
          obtain ⟨b', t', cs', hpe', hr', hpre'⟩ := HED.out.at h2'
          have hg' : cs'[i]? = some (es.getD i 0) := by rw [getD_get h2']; exact pre_get hpre' h2'
          have hx' : es.getD i 0 < 256 := by rw [getD_get h2']; exact HS2.out.get h2'
          subst hpe'
          clear hpre' h2'
          go_wp2_with (first
            | ((with_reducible apply W_loadCell); rfl; (first | with_reducible exact M.r0 | with_reducible exact M.r1 | with_reducible exact M.r2 | with_reducible exact M.r3 | with_reducible exact M.r4 | with_reducible exact M.r5 | with_reducible exact M.r6 | assumption | exact M.kept.row (by assumption) (by simp)); (first | exact get_map (by assumption) | exact get_map rfl | rfl); exact Salg.underlying5; rfl; simp only [Act.put, List.setIfInBounds_toArray, List.set_cons_zero, List.set_cons_succ])
            | ((with_reducible apply W_st8K (b := b1) (o := i) (m := 0 ||| (es.getD i 0))); rfl; rfl; exact u8_or_nat 0 (es.getD i 0) (by decide) hx'; exact M.r0; exact size5; (rw [hbl]; exact hlt); intro w3 K hr3; replace M := Mem.callPut (L1 := []) M (Or.inr (by assumption)) K hr3; clear K hr3; simp only [List.cons_append, List.nil_append] at M))
          rw [HST.out] at M
          go_roundw
          case rel => exact ⟨i + 1, by omega, by go_num, M⟩
          case measure => simp [intOf]; omega
        · have hz' : es.getD i 0 = 0 := by rw [List.getD_eq_getElem?_getD, List.getElem?_eq_none (by rw [← HMM.out]; exact h2)]; rfl
          try rw [hz'] at HST
          clear hz'
          go_wp2_with (first
            | ((with_reducible apply W_loadCell); rfl; (first | with_reducible exact M.r0 | with_reducible exact M.r1 | with_reducible exact M.r2 | with_reducible exact M.r3 | with_reducible exact M.r4 | with_reducible exact M.r5 | with_reducible exact M.r6 | assumption | exact M.kept.row (by assumption) (by simp)); (first | exact get_map (by assumption) | exact get_map rfl | rfl); exact Salg.underlying5; rfl; simp only [Act.put, List.setIfInBounds_toArray, List.set_cons_zero, List.set_cons_succ])
            | ((with_reducible apply W_st8K (b := b1) (o := i) (m := 0 ||| 0)); rfl; rfl; exact u8_or_nat 0 0 (by decide) (by decide); exact M.r0; exact size5; (rw [hbl]; exact hlt); intro w3 K hr3; replace M := Mem.callPut (L1 := []) M (Or.inr (by assumption)) K hr3; clear K hr3; simp only [List.cons_append, List.nil_append] at M))
          rw [HST.out] at M
          go_roundw
          case rel => exact ⟨i + 1, by omega, by go_num, M⟩
          case measure => simp [intOf]; omega
    · have hi' : i = 32 := by omega
      subst hi'
      have hbl := bwl_length (f := (fun x y => x ||| y)) (ds := ds) (es := es) hi
      obtain ⟨hlv, hls⟩ := HLAW.out
      go_wp2_with fail
      have HNV := NatV.row M.r0 hls (by omega)
      rw [hbl] at HNV
      refine (norm_any _ _ _ HNV).mono ?_
      rintro e w6 ⟨r, rfl, hr', K2⟩
      replace M := M.call K2
      go_wp2_with fail
      go_ret
      exact ⟨_, rfl, ⟨tr _, hr', tr_tight _, by rw [tr_val]; exact hlv⟩, M.kept⟩

set_option maxHeartbeats 2000000 in
set_option maxRecDepth 100000 in
theorem bitwise_xor (v u : Value) (X Y : Nat) (w : World) (hv : NumV w v X) (hu : NumV w u Y) (hX : X < 2 ^ 256) (hY : Y < 2 ^ 256) :
    Calls Salg.prog 150 #[.int .u8 24, v, u] w fun e w' => ∃ r, e = .returned r ∧ NumV w' r (X ^^^ Y) ∧ Kept [] w w' := by
  have M := Mem.start w []
  obtain ⟨ds, ⟨p, c, rfl, hc, hc', hd, hs⟩, hval, hn⟩ := hv.short (k := 32) (by rw [show (256 : Nat) ^ 32 = 2 ^ 256 from by decide]; exact hX)
  obtain ⟨es, ⟨q, ec, rfl, hec, hec', hed, hs2⟩, hval2, hm⟩ := hu.short (k := 32) (by rw [show (256 : Nat) ^ 32 = 2 ^ 256 from by decide]; exact hY)
  have HLAW := hid (bwl_op xor_bits rfl hn hm hs hs2)
  rw [hval, hval2] at HLAW
  have HS := hid hs
  have HS2 := hid hs2
  have HDD := hid hd
  have HED := hid hed
  clear hv hu hX hY hval hval2 hs hs2 hd hed
  have HN : Hid (ds.length = ds.length) := hid rfl
  obtain ⟨n, hnn⟩ : ∃ n, n = ds.length := ⟨_, rfl⟩
  obtain ⟨m, hmm⟩ : ∃ m, m = es.length := ⟨_, rfl⟩
  rw [← hnn] at hc hn ⊢
  rw [← hmm] at hec hm ⊢
  have HNN := hid hnn
  have HMM := hid hmm
  clear hnn hmm HN
  go_enter Salg.func150, Salg.ntmps150
  go_wp2_with ((with_reducible apply W_make8 (n := 32) M); rfl; rfl; omega; omega; omega; exact Salg.underlying89; exact info5; clear M; intro b1 w2 hb1 M; simp only [Act.put, List.setIfInBounds_toArray, List.set_cons_zero, List.set_cons_succ])
  go_loopw [14] (fun iv wr => ∃ i : Nat, i ≤ 32 ∧ iv = .int .i64 i ∧ Mem w [] [(b1, R8 5 (bwl (fun x y => x ^^^ y) ds es i))] wr) (fun iv _ => (32 - intOf iv).toNat)
  case atStart => exact ⟨0, by omega, rfl, M⟩
  case round =>
    clear M
    obtain ⟨i, hi, rfl, M⟩ := hrel
    rcases Nat.lt_or_ge i 32 with hlt | hge
    · have HST : Hid ((bwl (fun x y => x ^^^ y) ds es i).set i (ds.getD i 0 ^^^ es.getD i 0) = bwl (fun x y => x ^^^ y) ds es (i + 1)) := bwl_set (f := (fun x y => x ^^^ y)) (ds := ds) (es := es) hlt
      have hbl := bwl_length (f := (fun x y => x ^^^ y)) (ds := ds) (es := es) hi
      rcases Nat.lt_or_ge i n with h1 | h1
      · have h1' : i < ds.length := by rw [← HNN.out]; exact h1
        obtain ⟨b, t, cs, hpe, hr, hpre⟩ := HDD.out.at h1'
        have hg : cs[i]? = some (ds.getD i 0) := by rw [getD_get h1']; exact pre_get hpre h1'
        have hx : ds.getD i 0 < 256 := by rw [getD_get h1']; exact HS.out.get h1'
        subst hpe
        clear hpre h1'
        rcases Nat.lt_or_ge i m with h2 | h2
        · have h2' : i < es.length := by rw [← HMM.out]; exact h2
          obtain ⟨b', t', cs', hpe', hr', hpre'⟩ := HED.out.at h2'
          have hg' : cs'[i]? = some (es.getD i 0) := by rw [getD_get h2']; exact pre_get hpre' h2'
          have hx' : es.getD i 0 < 256 := by rw [getD_get h2']; exact HS2.out.get h2'
          subst hpe'
          clear hpre' h2'
          go_wp2_with (first
            | ((with_reducible apply W_loadCell); rfl; (first | with_reducible exact M.r0 | with_reducible exact M.r1 | with_reducible exact M.r2 | with_reducible exact M.r3 | with_reducible exact M.r4 | with_reducible exact M.r5 | with_reducible exact M.r6 | assumption | exact M.kept.row (by assumption) (by simp)); (first | exact get_map (by assumption) | exact get_map rfl | rfl); exact Salg.underlying5; rfl; simp only [Act.put, List.setIfInBounds_toArray, List.set_cons_zero, List.set_cons_succ])
            | ((with_reducible apply W_st8K (b := b1) (o := i) (m := (ds.getD i 0) ^^^ (es.getD i 0))); rfl; rfl; exact u8_xor_nat (ds.getD i 0) (es.getD i 0) hx hx'; exact M.r0; exact size5; (rw [hbl]; exact hlt); intro w3 K hr3; replace M := Mem.callPut (L1 := []) M (Or.inr (by assumption)) K hr3; clear K hr3; simp only [List.cons_append, List.nil_append] at M))
          rw [HST.out] at M
          go_roundw
          case rel => exact ⟨i + 1, by omega, by go_num, M⟩
          case measure => simp [intOf]; omega
        · have hz' : es.getD i 0 = 0 := by rw [List.getD_eq_getElem?_getD, List.getElem?_eq_none (by rw [← HMM.out]; exact h2)]; rfl
          try rw [hz'] at HST
          clear hz'
          go_wp2_with (first
            | ((with_reducible apply W_loadCell); rfl; (first | with_reducible exact M.r0 | with_reducible exact M.r1 | with_reducible exact M.r2 | with_reducible exact M.r3 | with_reducible exact M.r4 | with_reducible exact M.r5 | with_reducible exact M.r6 | assumption | exact M.kept.row (by assumption) (by simp)); (first | exact get_map (by assumption) | exact get_map rfl | rfl); exact Salg.underlying5; rfl; simp only [Act.put, List.setIfInBounds_toArray, List.set_cons_zero, List.set_cons_succ])
            | ((with_reducible apply W_st8K (b := b1) (o := i) (m := (ds.getD i 0) ^^^ 0)); rfl; rfl; exact u8_xor_nat (ds.getD i 0) 0 hx (by decide); exact M.r0; exact size5; (rw [hbl]; exact hlt); intro w3 K hr3; replace M := Mem.callPut (L1 := []) M (Or.inr (by assumption)) K hr3; clear K hr3; simp only [List.cons_append, List.nil_append] at M))
          rw [HST.out] at M
          go_roundw
          case rel => exact ⟨i + 1, by omega, by go_num, M⟩
          case measure => simp [intOf]; omega
      · have hz : ds.getD i 0 = 0 := by rw [List.getD_eq_getElem?_getD, List.getElem?_eq_none (by rw [← HNN.out]; exact h1)]; rfl
        rw [hz] at HST
        clear hz
        rcases Nat.lt_or_ge i m with h2 | h2
        · have h2' : i < es.length := by rw [← HMM.out]; exact h2
          obtain ⟨b', t', cs', hpe', hr', hpre'⟩ := HED.out.at h2'
          have hg' : cs'[i]? = some (es.getD i 0) := by rw [getD_get h2']; exact pre_get hpre' h2'
          have hx' : es.getD i 0 < 256 := by rw [getD_get h2']; exact HS2.out.get h2'
          subst hpe'
          clear hpre' h2'
          go_wp2_with (first
            | ((with_reducible apply W_loadCell); rfl; (first | with_reducible exact M.r0 | with_reducible exact M.r1 | with_reducible exact M.r2 | with_reducible exact M.r3 | with_reducible exact M.r4 | with_reducible exact M.r5 | with_reducible exact M.r6 | assumption | exact M.kept.row (by assumption) (by simp)); (first | exact get_map (by assumption) | exact get_map rfl | rfl); exact Salg.underlying5; rfl; simp only [Act.put, List.setIfInBounds_toArray, List.set_cons_zero, List.set_cons_succ])
            | ((with_reducible apply W_st8K (b := b1) (o := i) (m := 0 ^^^ (es.getD i 0))); rfl; rfl; exact u8_xor_nat 0 (es.getD i 0) (by decide) hx'; exact M.r0; exact size5; (rw [hbl]; exact hlt); intro w3 K hr3; replace M := Mem.callPut (L1 := []) M (Or.inr (by assumption)) K hr3; clear K hr3; simp only [List.cons_append, List.nil_append] at M))
          rw [HST.out] at M
          go_roundw
          case rel => exact ⟨i + 1, by omega, by go_num, M⟩
          case measure => simp [intOf]; omega
        · have hz' : es.getD i 0 = 0 := by rw [List.getD_eq_getElem?_getD, List.getElem?_eq_none (by rw [← HMM.out]; exact h2)]; rfl
          try rw [hz'] at HST
          clear hz'
          go_wp2_with (first
            | ((with_reducible apply W_loadCell); rfl; (first | with_reducible exact M.r0 | with_reducible exact M.r1 | with_reducible exact M.r2 | with_reducible exact M.r3 | with_reducible exact M.r4 | with_reducible exact M.r5 | with_reducible exact M.r6 | assumption | exact M.kept.row (by assumption) (by simp)); (first | exact get_map (by assumption) | exact get_map rfl | rfl); exact Salg.underlying5; rfl; simp only [Act.put, List.setIfInBounds_toArray, List.set_cons_zero, List.set_cons_succ])
            | ((with_reducible apply W_st8K (b := b1) (o := i) (m := 0 ^^^ 0)); rfl; rfl; exact u8_xor_nat 0 0 (by decide) (by decide); exact M.r0; exact size5; (rw [hbl]; exact hlt); intro w3 K hr3; replace M := Mem.callPut (L1 := []) M (Or.inr (by assumption)) K hr3; clear K hr3; simp only [List.cons_append, List.nil_append] at M))
          rw [HST.out] at M
          go_roundw
          case rel => exact ⟨i + 1, by omega, by go_num, M⟩
          case measure => simp [intOf]; omega
    · have hi' : i = 32 := by omega
      subst hi'
      have hbl := bwl_length (f := (fun x y => x ^^^ y)) (ds := ds) (es := es) hi
      obtain ⟨hlv, hls⟩ := HLAW.out
      go_wp2_with fail
      have HNV := NatV.row M.r0 hls (by omega)
      rw [hbl] at HNV
      refine (norm_any _ _ _ HNV).mono ?_
      rintro e w6 ⟨r, rfl, hr', K2⟩
      replace M := M.call K2
      go_wp2_with fail
      go_ret
      exact ⟨_, rfl, ⟨tr _, hr', tr_tight _, by rw [tr_val]; exact hlv⟩, M.kept⟩

set_option maxHeartbeats 2000000 in
set_option maxRecDepth 100000 in
theorem bitwise_not (v u : Value) (X Y : Nat) (w : World) (hv : NumV w v X) (hu : NumV w u Y) (hX : X < 2 ^ 256) (hY : Y < 2 ^ 256) :
    Calls Salg.prog 150 #[.int .u8 25, v, u] w fun e w' => ∃ r, e = .returned r ∧ NumV w' r (2 ^ 256 - 1 - X) ∧ Kept [] w w' := by
  have M := Mem.start w []
  obtain ⟨ds, ⟨p, c, rfl, hc, hc', hd, hs⟩, hval, hn⟩ := hv.short (k := 32) (by rw [show (256 : Nat) ^ 32 = 2 ^ 256 from by decide]; exact hX)
  obtain ⟨es, ⟨q, ec, rfl, hec, hec', hed, hs2⟩, hval2, hm⟩ := hu.short (k := 32) (by rw [show (256 : Nat) ^ 32 = 2 ^ 256 from by decide]; exact hY)
  have HLAW := hid (bwl_not es hn hs)
  rw [hval] at HLAW
  have HS := hid hs
  have HS2 := hid hs2
  have HDD := hid hd
  have HED := hid hed
  clear hv hu hX hY hval hval2 hs hs2 hd hed
  have HN : Hid (ds.length = ds.length) := hid rfl
  obtain ⟨n, hnn⟩ : ∃ n, n = ds.length := ⟨_, rfl⟩
  obtain ⟨m, hmm⟩ : ∃ m, m = es.length := ⟨_, rfl⟩
  rw [← hnn] at hc hn ⊢
  rw [← hmm] at hec hm ⊢
  have HNN := hid hnn
  have HMM := hid hmm
  clear hnn hmm HN
  go_enter Salg.func150, Salg.ntmps150
  go_wp2_with ((with_reducible apply W_make8 (n := 32) M); rfl; rfl; omega; omega; omega; exact Salg.underlying89; exact info5; clear M; intro b1 w2 hb1 M; simp only [Act.put, List.setIfInBounds_toArray, List.set_cons_zero, List.set_cons_succ])
  go_loopw [14] (fun iv wr => ∃ i : Nat, i ≤ 32 ∧ iv = .int .i64 i ∧ Mem w [] [(b1, R8 5 (bwl (fun x _ => 255 - x) ds es i))] wr) (fun iv _ => (32 - intOf iv).toNat)
  case atStart => exact ⟨0, by omega, rfl, M⟩
  case round =>
    clear M
    obtain ⟨i, hi, rfl, M⟩ := hrel
    rcases Nat.lt_or_ge i 32 with hlt | hge
    · have HST : Hid ((bwl (fun x _ => 255 - x) ds es i).set i (255 - ds.getD i 0) = bwl (fun x _ => 255 - x) ds es (i + 1)) := bwl_set (f := (fun x _ => 255 - x)) (ds := ds) (es := es) hlt
      have hbl := bwl_length (f := (fun x _ => 255 - x)) (ds := ds) (es := es) hi
      rcases Nat.lt_or_ge i n with h1 | h1
      · have h1' : i < ds.length := by rw [← HNN.out]; exact h1
        obtain ⟨b, t, cs, hpe, hr, hpre⟩ := HDD.out.at h1'
        have hg : cs[i]? = some (ds.getD i 0) := by rw [getD_get h1']; exact pre_get hpre h1'
        have hx : ds.getD i 0 < 256 := by rw [getD_get h1']; exact HS.out.get h1'
        subst hpe
        clear hpre h1'
        rcases Nat.lt_or_ge i m with h2 | h2
        · have h2' : i < es.length := by rw [← HMM.out]; exact h2
          obtain ⟨b', t', cs', hpe', hr', hpre'⟩ := HED.out.at h2'
          have hg' : cs'[i]? = some (es.getD i 0) := by rw [getD_get h2']; exact pre_get hpre' h2'
          have hx' : es.getD i 0 < 256 := by rw [getD_get h2']; exact HS2.out.get h2'
          subst hpe'
          clear hpre' h2'
          go_wp2_with (first
            | ((with_reducible apply W_loadCell); rfl; (first | with_reducible exact M.r0 | with_reducible exact M.r1 | with_reducible exact M.r2 | with_reducible exact M.r3 | with_reducible exact M.r4 | with_reducible exact M.r5 | with_reducible exact M.r6 | assumption | exact M.kept.row (by assumption) (by simp)); (first | exact get_map (by assumption) | exact get_map rfl | rfl); exact Salg.underlying5; rfl; simp only [Act.put, List.setIfInBounds_toArray, List.set_cons_zero, List.set_cons_succ])
            | ((with_reducible apply W_st8K (b := b1) (o := i) (m := 255 - (ds.getD i 0))); rfl; rfl; exact not8 hx; exact M.r0; exact size5; (rw [hbl]; exact hlt); intro w3 K hr3; replace M := Mem.callPut (L1 := []) M (Or.inr (by assumption)) K hr3; clear K hr3; simp only [List.cons_append, List.nil_append] at M))
          rw [HST.out] at M
          go_roundw
          case rel => exact ⟨i + 1, by omega, by go_num, M⟩
          case measure => simp [intOf]; omega
        · have hz' : es.getD i 0 = 0 := by rw [List.getD_eq_getElem?_getD, List.getElem?_eq_none (by rw [← HMM.out]; exact h2)]; rfl
          try rw [hz'] at HST
          clear hz'
          go_wp2_with (first
            | ((with_reducible apply W_loadCell); rfl; (first | with_reducible exact M.r0 | with_reducible exact M.r1 | with_reducible exact M.r2 | with_reducible exact M.r3 | with_reducible exact M.r4 | with_reducible exact M.r5 | with_reducible exact M.r6 | assumption | exact M.kept.row (by assumption) (by simp)); (first | exact get_map (by assumption) | exact get_map rfl | rfl); exact Salg.underlying5; rfl; simp only [Act.put, List.setIfInBounds_toArray, List.set_cons_zero, List.set_cons_succ])
            | ((with_reducible apply W_st8K (b := b1) (o := i) (m := 255 - (ds.getD i 0))); rfl; rfl; exact not8 hx; exact M.r0; exact size5; (rw [hbl]; exact hlt); intro w3 K hr3; replace M := Mem.callPut (L1 := []) M (Or.inr (by assumption)) K hr3; clear K hr3; simp only [List.cons_append, List.nil_append] at M))
          rw [HST.out] at M
          go_roundw
          case rel => exact ⟨i + 1, by omega, by go_num, M⟩
          case measure => simp [intOf]; omega
      · have hz : ds.getD i 0 = 0 := by rw [List.getD_eq_getElem?_getD, List.getElem?_eq_none (by rw [← HNN.out]; exact h1)]; rfl
        rw [hz] at HST
        clear hz
        rcases Nat.lt_or_ge i m with h2 | h2
        · have h2' : i < es.length := by rw [← HMM.out]; exact h2
          obtain ⟨b', t', cs', hpe', hr', hpre'⟩ := HED.out.at h2'
          have hg' : cs'[i]? = some (es.getD i 0) := by rw [getD_get h2']; exact pre_get hpre' h2'
          have hx' : es.getD i 0 < 256 := by rw [getD_get h2']; exact HS2.out.get h2'
          subst hpe'
          clear hpre' h2'
          go_wp2_with (first
            | ((with_reducible apply W_loadCell); rfl; (first | with_reducible exact M.r0 | with_reducible exact M.r1 | with_reducible exact M.r2 | with_reducible exact M.r3 | with_reducible exact M.r4 | with_reducible exact M.r5 | with_reducible exact M.r6 | assumption | exact M.kept.row (by assumption) (by simp)); (first | exact get_map (by assumption) | exact get_map rfl | rfl); exact Salg.underlying5; rfl; simp only [Act.put, List.setIfInBounds_toArray, List.set_cons_zero, List.set_cons_succ])
            | ((with_reducible apply W_st8K (b := b1) (o := i) (m := 255 - 0)); rfl; rfl; exact not8 (by decide); exact M.r0; exact size5; (rw [hbl]; exact hlt); intro w3 K hr3; replace M := Mem.callPut (L1 := []) M (Or.inr (by assumption)) K hr3; clear K hr3; simp only [List.cons_append, List.nil_append] at M))
          rw [HST.out] at M
          go_roundw
          case rel => exact ⟨i + 1, by omega, by go_num, M⟩
          case measure => simp [intOf]; omega
        · have hz' : es.getD i 0 = 0 := by rw [List.getD_eq_getElem?_getD, List.getElem?_eq_none (by rw [← HMM.out]; exact h2)]; rfl
          try rw [hz'] at HST
          clear hz'
          go_wp2_with (first
            | ((with_reducible apply W_loadCell); rfl; (first | with_reducible exact M.r0 | with_reducible exact M.r1 | with_reducible exact M.r2 | with_reducible exact M.r3 | with_reducible exact M.r4 | with_reducible exact M.r5 | with_reducible exact M.r6 | assumption | exact M.kept.row (by assumption) (by simp)); (first | exact get_map (by assumption) | exact get_map rfl | rfl); exact Salg.underlying5; rfl; simp only [Act.put, List.setIfInBounds_toArray, List.set_cons_zero, List.set_cons_succ])
            | ((with_reducible apply W_st8K (b := b1) (o := i) (m := 255 - 0)); rfl; rfl; exact not8 (by decide); exact M.r0; exact size5; (rw [hbl]; exact hlt); intro w3 K hr3; replace M := Mem.callPut (L1 := []) M (Or.inr (by assumption)) K hr3; clear K hr3; simp only [List.cons_append, List.nil_append] at M))
          rw [HST.out] at M
          go_roundw
          case rel => exact ⟨i + 1, by omega, by go_num, M⟩
          case measure => simp [intOf]; omega
    · have hi' : i = 32 := by omega
      subst hi'
      have hbl := bwl_length (f := (fun x _ => 255 - x)) (ds := ds) (es := es) hi
      obtain ⟨hlv, hls⟩ := HLAW.out
      go_wp2_with fail
      have HNV := NatV.row M.r0 hls (by omega)
      rw [hbl] at HNV
      refine (norm_any _ _ _ HNV).mono ?_
      rintro e w6 ⟨r, rfl, hr', K2⟩
      replace M := M.call K2
      go_wp2_with fail
      go_ret
      exact ⟨_, rfl, ⟨tr _, hr', tr_tight _, by rw [tr_val]; exact hlv⟩, M.kept⟩
end Go.Proofs.YgcsalGreat

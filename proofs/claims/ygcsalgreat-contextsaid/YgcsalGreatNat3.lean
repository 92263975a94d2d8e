/-
  The walks of nat: take, Mul, DivMod.
-/
import Derived.Test.YgcsalGreatNat2
import Derived.Test.YgcsalGreatPlainD
set_option linter.unusedSimpArgs false
namespace Go.Own
theorem mul_cast_mod (c x y o : Nat) : ((c : Int) + ((x : Int) * (y : Int) + (o : Int))) % 256 = (((c + x * y + o) % 256 : Nat) : Int) := by
  rw [← Int.natCast_mul]; omega
theorem mul_cast_div (c x y o : Nat) : ((c : Int) + ((x : Int) * (y : Int) + (o : Int))) / 256 = (((c + x * y + o) / 256 : Nat) : Int) := by
  rw [← Int.natCast_mul]; omega
theorem and1_int {x n : Nat} (hx : x < 256) : bits .and .u8 ((x : Int) / 2 ^ n) 1 = ((x / 2 ^ n % 2 : Nat) : Int) := by
  have e : (x : Int) / 2 ^ n = ((x / 2 ^ n : Nat) : Int) := by
    have e2 : (2 : Int) ^ n = ((2 ^ n : Nat) : Int) := by rw [Int.natCast_pow]; rfl
    rw [e2]; rfl
  have h1 : x / 2 ^ n < 256 := Nat.lt_of_le_of_lt (Nat.div_le_self _ _) hx
  have := u8_and_nat (x / 2 ^ n) 1 h1 (by decide)
  rw [e]
  rw [Nat.and_one_is_mod] at this
  exact this
theorem dbl_or {d c : Nat} (hc : c ≤ 1) : bits .or .u8 ((d : Int) * 2 % 256) (c : Int) = ((2 * d % 256 + c : Nat) : Int) := by
  have e : (d : Int) * 2 % 256 = ((2 * d % 256 : Nat) : Int) := by omega
  rw [e, u8_or_nat _ _ (by omega) (by omega), or_add 1 (by omega) (by omega)]
theorem or_bit {g n : Nat} (hg : g < 256) (hn : n < 8) (h : g % 2 ^ (n + 1) = 0) : bits .or .u8 (g : Int) (2 ^ n % 256) = ((g + 2 ^ n : Nat) : Int) := by
  have hp : 2 ^ n ≤ 2 ^ 7 := Nat.pow_le_pow_right (by decide) (by omega)
  have e2 : (2 : Int) ^ n = ((2 ^ n : Nat) : Int) := by rw [Int.natCast_pow]; rfl
  have e3 : (2 : Int) ^ n % 256 = ((2 ^ n : Nat) : Int) := by rw [e2]; generalize 2 ^ n = z at *; omega
  rw [e3, u8_or_nat _ _ hg (by omega), or_add (n + 1) h (Nat.pow_lt_pow_right (by decide) (by omega))]
theorem or_bit_lt {g n : Nat} (hg : g < 256) (hn : n < 8) (h : g % 2 ^ (n + 1) = 0) : g + 2 ^ n < 256 := by
  have hp : 2 ^ n ≤ 2 ^ 7 := Nat.pow_le_pow_right (by decide) (by omega)
  have e : (256 : Nat) = 2 ^ (n + 1) * 2 ^ (7 - n) := by rw [← Nat.pow_add, show n + 1 + (7 - n) = 8 from by omega]
  have hd := Nat.div_add_mod g (2 ^ (n + 1))
  rw [h, Nat.add_zero] at hd
  have hlt : g / 2 ^ (n + 1) < 2 ^ (7 - n) := Nat.div_lt_of_lt_mul (by rw [← e]; exact hg)
  have : 2 ^ (n + 1) * (g / 2 ^ (n + 1) + 1) ≤ 256 := by rw [e]; exact Nat.mul_le_mul_left _ hlt
  rw [Nat.mul_add, hd] at this
  have : 2 ^ (n + 1) = 2 * 2 ^ n := by rw [Nat.pow_succ, Nat.mul_comm]
  have hpp : 0 < 2 ^ n := Nat.pow_pos (by decide)
  omega
theorem mul_bd {x y : Nat} (hx : x < 256) (hy : y < 256) : x * y ≤ 65025 := Nat.mul_le_mul (show x ≤ 255 by omega) (show y ≤ 255 by omega)
theorem mul_bd_int {x y : Nat} (hx : x < 256) (hy : y < 256) : (0 : Int) ≤ (x : Int) * (y : Int) ∧ (x : Int) * (y : Int) ≤ 65025 := by
  have := mul_bd hx hy
  rw [← Int.natCast_mul]; omega
end Go.Own
namespace Go.Proofs.YgcsalGreat
open Go.RowKit Go.Own

set_option maxHeartbeats 2000000 in
set_option maxRecDepth 100000 in
/-- take: the digits es are taken from the row ds, in place; what is left, and the borrow. -/
theorem take_any (b t : Nat) (q : Option Addr) (c2 : Nat) (ds es : List Nat) (w : World) (hr : w.heap[b]? = some (R8 t ds)) (hs : Small ds) (hl : ds.length ≤ 1000000) (_hc : es.length ≤ c2) (_hc' : c2 ≤ 1000000)
    (hle : es.length ≤ ds.length) (hd : Dig w q es) (hs' : Small es) (hne : es ≠ [] → q.map (·.block) ≠ some b) :
    Calls Salg.prog 204 #[.slice (some ⟨b, 0, none⟩) ds.length ds.length, .slice q es.length c2] w fun e w' => ∃ (r : Nat) (cur : List Nat), e = .returned (.int .u16 (r : Int)) ∧ r ≤ 1 ∧
      cur.length = ds.length ∧ Small cur ∧ val cur + val es = val ds + 256 ^ ds.length * r ∧ Kept [b] w w' ∧ w'.heap[b]? = some (R8 t cur) := by
  have M := (Mem.start w [b]).add hr (by simp)
  have HD := hid hd
  have HSD := hid hs
  have HSE := hid hs'
  clear hr hd hs hs'
  go_enter Salg.func204, Salg.ntmps204
  go_wp2
  go_loopw [5, 11] (fun br i wr => ∃ (k r : Nat) (cur : List Nat), k ≤ ds.length ∧ i = .int .i64 k ∧ br = .int .u16 r ∧ r ≤ 1 ∧ cur.length = ds.length ∧ Small cur ∧ cur.drop k = ds.drop k ∧
      val cur + val (es.take k) = val ds + 256 ^ k * r ∧ Mem w [b] [(b, R8 t cur)] wr) (fun _ i _ => ds.length - (intOf i).toNat)
  case atStart => exact ⟨0, 0, ds, by omega, rfl, rfl, by omega, rfl, HSD.out, rfl, by simp [val], M⟩
  case round =>
    obtain ⟨k, r, cur, hk, rfl, rfl, hr1, hcl, hcs, hdrop, hval, M⟩ := hrel
    have HDR := hid hdrop
    have HV := hid hval
    have HCS := hid hcs
    clear hdrop hval hcs
    by_cases hlt : k < ds.length
    · have hkc : k < cur.length := by omega
      have hgc : cur[k]? = some cur[k] := List.getElem?_eq_getElem hkc
      have hac := HCS.out.get hkc
      by_cases hke : k < es.length
      · obtain ⟨b', t', cs', rfl, hr', hpre'⟩ := HD.out.at hke
        have hge := pre_get hpre' hke
        have hbe := HSE.out.get hke
        have hbb : b' ≠ b := by have := hne (List.ne_nil_of_length_pos (by omega)); simpa using this
        have hrow' : wr.heap[b']? = some (R8 t' cs') := M.kept.row hr' (by simpa using hbb)
        have HT := hid (val_take_succ hke)
        have HSET := hid (fun y => val_set (l := cur) y hkc)
        generalize es[k] = e at *
        generalize hx : cur[k] = x at *
        have HX := hid hx
        clear hx
        by_cases hxs : x < r + e
        · go_wp2_with (first
            | ((with_reducible apply W_loadCell); rfl; (first | with_reducible exact M.r0 | with_reducible exact M.r1 | with_reducible exact M.r2 | with_reducible exact M.r3 | with_reducible exact M.r4 | with_reducible exact M.r5 | with_reducible exact M.r6 | assumption | exact M.kept.row (by assumption) (by simp)); (first | exact get_map (by assumption) | exact get_map rfl | rfl); exact Salg.underlying5; rfl; simp only [Act.put, List.setIfInBounds_toArray, List.set_cons_zero, List.set_cons_succ])
            | ((with_reducible apply W_st8_0 (m := x + 256 * 1 - (r + e))); rfl; rfl; omega; exact M; exact Or.inl (by simp); exact size5; omega; clear M; intro w2 M))
          go_roundw
          case rel =>
            refine ⟨k + 1, 1, cur.set k (x + 256 * 1 - (r + e)), by omega, by go_num, rfl, by omega, by simp [hcl], HCS.out.set (by omega), ?_, ?_, M⟩
            · rw [List.drop_set_of_lt (by omega), ← List.drop_drop, ← List.drop_drop, HDR.out]
            · rw [HT.out, pow256_succ]; exact take_step HV.out (by omega) (HSET.out _)
          case measure => simp [intOf]; omega
        · go_wp2_with (first
            | ((with_reducible apply W_loadCell); rfl; (first | with_reducible exact M.r0 | with_reducible exact M.r1 | with_reducible exact M.r2 | with_reducible exact M.r3 | with_reducible exact M.r4 | with_reducible exact M.r5 | with_reducible exact M.r6 | assumption | exact M.kept.row (by assumption) (by simp)); (first | exact get_map (by assumption) | exact get_map rfl | rfl); exact Salg.underlying5; rfl; simp only [Act.put, List.setIfInBounds_toArray, List.set_cons_zero, List.set_cons_succ])
            | ((with_reducible apply W_st8_0 (m := x + 256 * 0 - (r + e))); rfl; rfl; omega; exact M; exact Or.inl (by simp); exact size5; omega; clear M; intro w2 M))
          go_roundw
          case rel =>
            refine ⟨k + 1, 0, cur.set k (x + 256 * 0 - (r + e)), by omega, by go_num, rfl, by omega, by simp [hcl], HCS.out.set (by omega), ?_, ?_, M⟩
            · rw [List.drop_set_of_lt (by omega), ← List.drop_drop, ← List.drop_drop, HDR.out]
            · rw [HT.out, pow256_succ]; exact take_step HV.out (by omega) (HSET.out _)
          case measure => simp [intOf]; omega
      · have HT : Hid (val (es.take (k + 1)) = val (es.take k) + 256 ^ k * 0) := by
          show _ = _
          rw [List.take_of_length_le (by omega), List.take_of_length_le (by omega)]; omega
        have HSET := hid (fun y => val_set (l := cur) y hkc)
        generalize hx : cur[k] = x at *
        have HX := hid hx
        clear hx
        by_cases hxs : x < r
        · go_wp2_with (first
            | ((with_reducible apply W_loadCell); rfl; (first | with_reducible exact M.r0 | with_reducible exact M.r1 | with_reducible exact M.r2 | with_reducible exact M.r3 | with_reducible exact M.r4 | with_reducible exact M.r5 | with_reducible exact M.r6 | assumption | exact M.kept.row (by assumption) (by simp)); (first | exact get_map (by assumption) | exact get_map rfl | rfl); exact Salg.underlying5; rfl; simp only [Act.put, List.setIfInBounds_toArray, List.set_cons_zero, List.set_cons_succ])
            | ((with_reducible apply W_st8_0 (m := x + 256 * 1 - (r + 0))); rfl; rfl; omega; exact M; exact Or.inl (by simp); exact size5; omega; clear M; intro w2 M))
          go_roundw
          case rel =>
            refine ⟨k + 1, 1, cur.set k (x + 256 * 1 - (r + 0)), by omega, by go_num, rfl, by omega, by simp [hcl], HCS.out.set (by omega), ?_, ?_, M⟩
            · rw [List.drop_set_of_lt (by omega), ← List.drop_drop, ← List.drop_drop, HDR.out]
            · rw [HT.out, pow256_succ]; exact take_step HV.out (by omega) (HSET.out _)
          case measure => simp [intOf]; omega
        · go_wp2_with (first
            | ((with_reducible apply W_loadCell); rfl; (first | with_reducible exact M.r0 | with_reducible exact M.r1 | with_reducible exact M.r2 | with_reducible exact M.r3 | with_reducible exact M.r4 | with_reducible exact M.r5 | with_reducible exact M.r6 | assumption | exact M.kept.row (by assumption) (by simp)); (first | exact get_map (by assumption) | exact get_map rfl | rfl); exact Salg.underlying5; rfl; simp only [Act.put, List.setIfInBounds_toArray, List.set_cons_zero, List.set_cons_succ])
            | ((with_reducible apply W_st8_0 (m := x + 256 * 0 - (r + 0))); rfl; rfl; omega; exact M; exact Or.inl (by simp); exact size5; omega; clear M; intro w2 M))
          go_roundw
          case rel =>
            refine ⟨k + 1, 0, cur.set k (x + 256 * 0 - (r + 0)), by omega, by go_num, rfl, by omega, by simp [hcl], HCS.out.set (by omega), ?_, ?_, M⟩
            · rw [List.drop_set_of_lt (by omega), ← List.drop_drop, ← List.drop_drop, HDR.out]
            · rw [HT.out, pow256_succ]; exact take_step HV.out (by omega) (HSET.out _)
          case measure => simp [intOf]; omega
    · have hkd : k = ds.length := by omega
      subst hkd
      go_wp2_with fail
      go_ret
      refine ⟨r, cur, rfl, hr1, hcl, HCS.out, ?_, M.kept, M.r0⟩
      have := HV.out
      rw [List.take_of_length_le (by omega)] at this
      exact this

set_option maxHeartbeats 4000000 in
set_option maxRecDepth 100000 in
theorem mul_any (v u : Value) (ds es : List Nat) (w : World) (hv : NatV w v ds) (hu : NatV w u es) (hds : ds.length ≤ 1000) (hes : es.length ≤ 1000) :
    Calls Salg.prog 70 #[v, u] w fun e w' => ∃ r, e = .returned r ∧ NumV w' r (val ds * val es) ∧ Kept [] w w' := by
  obtain ⟨p, c, rfl, hc, hc', hd, hs⟩ := hv
  obtain ⟨q, c2, rfl, hk, hk', hd', hs'⟩ := hu
  have HTR : Hid ((ds.take (tl ds ds.length)).length = tl ds ds.length) := tr_length ds
  have HTR' : Hid ((es.take (tl es es.length)).length = tl es es.length) := tr_length es
  have HSM : Hid (Small (ds.take (tl ds ds.length))) := hs.tr
  have HSM' : Hid (Small (es.take (tl es es.length))) := hs'.tr
  have HDT := hid (hd.take (tl ds ds.length))
  have HDT' := hid (hd'.take (tl es es.length))
  have hb1 := tl_le ds ds.length
  have hb2 := tl_le es es.length
  have HTRIM := hid (trim_any p c ds w hc hc' hd)
  have HTRIM' := hid (trim_any q c2 es w hk hk' hd')
  rw [← tr_val ds, ← tr_val es, show tr ds = ds.take (tl ds ds.length) from rfl, show tr es = es.take (tl es es.length) from rfl]
  clear hd hd' hs hs'
  have hl1 : ds.length ≤ 1000000 := by omega
  have hl2 : es.length ≤ 1000000 := by omega
  generalize tl ds ds.length = k at *
  generalize tl es es.length = j at *
  generalize ds.take k = A at *
  generalize es.take j = B at *
  have M := Mem.start w []
  go_enter Salg.func70, Salg.ntmps70
  go_wp2_with fail
  refine HTRIM.out.mono ?_; rintro e w1 ⟨rfl, rfl⟩
  go_wp2_with fail
  refine HTRIM'.out.mono ?_; rintro e w1 ⟨rfl, rfl⟩
  go_wp2_with ((with_reducible apply W_make8 (n := k + j) M); rfl; rfl; omega; omega; omega; exact Salg.underlying89; exact info5; clear M; intro b1 w2 hb1 M; simp only [Act.put, List.setIfInBounds_toArray, List.set_cons_zero, List.set_cons_succ])
  go_loopw [23] (fun i wr => ∃ (n : Nat) (cur : List Nat), n ≤ k ∧ i = .int .i64 n ∧ cur.length = k + j ∧ Small cur ∧ (∀ i, n + j ≤ i → cur.getD i 0 = 0) ∧ val cur = val (A.take n) * val B ∧ Mem w1 [] [(b1, R8 5 cur)] wr) (fun i _ => k - (intOf i).toNat)
  case atStart => exact ⟨0, List.replicate (k + j) 0, by omega, rfl, by simp, small_replicate _, fun i _ => by simp [List.getD_eq_getElem?_getD, List.getElem?_replicate]; split <;> rfl, by simp [val, val_replicate], M⟩
  case round =>
    clear M
    obtain ⟨n, cur, hn, rfl, hcl, hcs, hz, hval, M⟩ := hrel
    have HCS := hid hcs
    have HZ := hid hz
    have HV := hid hval
    clear hcs hz hval
    by_cases hlt : n < k
    · have hnA : n < A.length := by rw [HTR.out]; exact hlt
      obtain ⟨b, t, cs, rfl, hr, hpre⟩ := HDT.out.at hnA
      have hga := pre_get hpre hnA
      have hxa := HSM.out.get hnA
      have HT := hid (val_take_succ hnA)
      generalize A[n] = x at *
      go_wp2_with ((with_reducible apply W_loadCell); rfl; (first | with_reducible exact M.r0 | with_reducible exact M.r1 | with_reducible exact M.r2 | with_reducible exact M.r3 | with_reducible exact M.r4 | with_reducible exact M.r5 | with_reducible exact M.r6 | assumption | exact M.kept.row (by assumption) (by simp)); (first | exact get_map (by assumption) | exact get_map rfl | rfl); exact Salg.underlying5; rfl; simp only [Act.put, List.setIfInBounds_toArray, List.set_cons_zero, List.set_cons_succ])
      go_loopw [8, 30] (fun cv iv wr => ∃ (i c : Nat) (cur : List Nat), i ≤ j ∧ iv = .int .i64 i ∧ cv = .int .u32 c ∧ c < 256 ∧ cur.length = k + j ∧ Small cur ∧ (∀ i, n + j ≤ i → cur.getD i 0 = 0) ∧
          val cur + 256 ^ (n + i) * c = val (A.take n) * val B + 256 ^ n * (x * val (B.take i)) ∧ Mem w1 [] [(b1, R8 5 cur)] wr) (fun _ iv _ => j - (intOf iv).toNat)
      case atStart => exact ⟨0, 0, cur, by omega, rfl, rfl, by omega, hcl, HCS.out, HZ.out, by simp [val, HV.out], M⟩
      case round =>
        clear M HCS HZ HV hcl cur
        obtain ⟨i, c, cur, hi, rfl, rfl, hcb, hcl, hcs, hz, hval, M⟩ := hrel
        have HCS := hid hcs
        have HZ := hid hz
        have HV := hid hval
        clear hcs hz hval
        by_cases hij : i < j
        · have hiB : i < B.length := by rw [HTR'.out]; exact hij
          obtain ⟨b', t', cs', rfl, hr', hpre'⟩ := HDT'.out.at hiB
          have hgb := pre_get hpre' hiB
          have hyb := HSM'.out.get hiB
          have hni : n + i < cur.length := by omega
          have hgo : cur[n + i]? = some cur[n + i] := List.getElem?_eq_getElem hni
          have hob := HCS.out.get hni
          have HTB := hid (val_take_succ hiB)
          have HSET := hid (fun y => val_set (l := cur) y hni)
          generalize B[i] = y at *
          generalize cur[n + i] = o at *
          obtain ⟨hm0, hm1⟩ := mul_bd_int hxa hyb
          have hmb := mul_bd hxa hyb
          go_wp2_with (first
            | ((with_reducible apply W_loadCell); rfl; (first | with_reducible exact M.r0 | with_reducible exact M.r1 | with_reducible exact M.r2 | with_reducible exact M.r3 | with_reducible exact M.r4 | with_reducible exact M.r5 | with_reducible exact M.r6 | assumption | exact M.kept.row (by assumption) (by simp)); (first | exact get_map (by assumption) | exact get_map rfl | rfl); exact Salg.underlying5; rfl; simp only [Act.put, List.setIfInBounds_toArray, List.set_cons_zero, List.set_cons_succ])
            | ((with_reducible apply W_st8_0 (m := (c + x * y + o) % 256)); rfl; rfl; exact mul_cast_mod _ _ _ _; exact M; exact Or.inr hb1; exact size5; omega; clear M; intro w2 M))
          go_roundw
          case rel =>
            refine ⟨i + 1, (c + x * y + o) / 256, cur.set (n + i) ((c + x * y + o) % 256), by omega, by go_num, by rw [mul_cast_div], by omega, by simp [hcl], HCS.out.set (by omega), ?_, ?_, M⟩
            · intro l hl
              rw [List.getD_eq_getElem?_getD, List.getElem?_set_ne (by omega), ← List.getD_eq_getElem?_getD]
              exact HZ.out l hl
            · have := mul_step (x := x) (y := y) HV.out (HSET.out _)
              rw [show n + (i + 1) = (n + i) + 1 from by omega, pow256_succ, this, HTB.out, Nat.mul_add x, Nat.mul_add (256 ^ n), Nat.pow_add, Nat.add_assoc]
              congr 2
              rw [Nat.mul_assoc, Nat.mul_left_comm x]
          case measure => simp [intOf]; omega
        · have hij' : i = j := by omega
          subst hij'
          have hni : n + i < cur.length := by omega
          have hz0 : cur[n + i] = 0 := by have := HZ.out (n + i) (by omega); rw [getD_get hni] at this; exact this
          have HSET := hid (fun y => val_set (l := cur) y hni)
          have HZ0 := hid hz0
          clear hz0
          go_wp2_with ((with_reducible apply W_st8_0 (m := c)); rfl; rfl; omega; exact M; exact Or.inr hb1; exact size5; omega; clear M; intro w2 M)
          go_roundw
          case rel =>
            refine ⟨n + 1, cur.set (n + i) c, by omega, by go_num, by simp [hcl], HCS.out.set (by omega), ?_, ?_, M⟩
            · intro l hl
              rw [List.getD_eq_getElem?_getD, List.getElem?_set_ne (by omega), ← List.getD_eq_getElem?_getD]
              exact HZ.out l (by omega)
            · have h1 := HSET.out c
              rw [HZ0.out, Nat.mul_zero, Nat.add_zero] at h1
              rw [h1, HV.out, HT.out, Nat.add_mul, List.take_of_length_le (l := B) (by rw [HTR'.out]; omega), Nat.mul_assoc]
          case measure => simp [intOf]; omega
    · have hnk : n = k := by omega
      subst hnk
      have hl : cur.length ≤ 1000000 := by omega
      have HN := hid (NatV.row M.r0 HCS.out hl)
      rw [hcl] at HN
      go_wp2_with fail
      refine (clip_any _ cur _ HN.out).mono ?_
      rintro e w3 ⟨r, rfl, hr, rfl⟩
      have HR := hid hr
      clear hr
      go_wp2_with fail
      go_ret
      refine ⟨_, rfl, ⟨_, HR.out, tr_tight _, ?_⟩, M.kept⟩
      rw [tr_val, HV.out, List.take_of_length_le (by rw [HTR.out]; omega)]

set_option maxHeartbeats 4000000 in
set_option maxRecDepth 100000 in
theorem divMod_zero (v u : Value) (ds es : List Nat) (w : World) (hv : NatV w v ds) (hu : NatV w u es) (h0 : val es = 0) :
    Calls Salg.prog 142 #[v, u] w fun e w' => e = .returned (.tuple #[.slice none 0 0, .slice none 0 0, .bool false]) ∧ w' = w := by
  obtain ⟨p, c, rfl, hc, hc', hd, hs⟩ := hv
  obtain ⟨q, c2, rfl, hk, hk', hd', hs'⟩ := hu
  have ht : tl es es.length = 0 := by
    have h1 := tr_length es
    have h2 : tr es = [] := (tr_tight es).zero (by rw [tr_val]; exact h0)
    rw [h2] at h1
    simpa using h1.symm
  have hb1 := tl_le ds ds.length
  have HTRIM := hid (trim_any p c ds w hc hc' hd)
  have HTRIM' := hid (trim_any q c2 es w hk hk' hd')
  rw [ht] at HTRIM'
  clear hd hd' hs hs' ht h0
  have hl1 : ds.length ≤ 1000000 := by omega
  have hl2 : es.length ≤ 1000000 := by omega
  generalize tl ds ds.length = k at *
  go_enter Salg.func142, Salg.ntmps142
  go_wp2_with fail
  refine HTRIM.out.mono ?_; rintro e w1 ⟨rfl, rfl⟩
  go_wp2_with fail
  refine HTRIM'.out.mono ?_; rintro e w1 ⟨rfl, rfl⟩
  go_wp2_with fail
  go_ret3
  exact ⟨rfl, rfl⟩

set_option maxHeartbeats 8000000 in
set_option maxRecDepth 100000 in
theorem divMod_any (v u : Value) (ds es : List Nat) (w : World) (hv : NatV w v ds) (hu : NatV w u es) (hds : ds.length ≤ 1000) (hes : es.length ≤ 1000) (h0 : val es ≠ 0) :
    Calls Salg.prog 142 #[v, u] w fun e w' => ∃ r s, e = .returned (.tuple #[r, s, .bool true]) ∧ NumV w' r (val ds / val es) ∧ NumV w' s (val ds % val es) ∧ Kept [] w w' := by
  obtain ⟨p, c, rfl, hc, hc', hd, hs⟩ := hv
  obtain ⟨q, c2, rfl, hk, hk', hd', hs'⟩ := hu
  have HTR : Hid ((ds.take (tl ds ds.length)).length = tl ds ds.length) := tr_length ds
  have HTR' : Hid ((es.take (tl es es.length)).length = tl es es.length) := tr_length es
  have HSM : Hid (Small (ds.take (tl ds ds.length))) := hs.tr
  have HSM' : Hid (Small (es.take (tl es es.length))) := hs'.tr
  have HDT := hid (hd.take (tl ds ds.length))
  have HDT' := hid (hd'.take (tl es es.length))
  have hb1 := tl_le ds ds.length
  have hb2 := tl_le es es.length
  have HTRIM := hid (trim_any p c ds w hc hc' hd)
  have HTRIM' := hid (trim_any q c2 es w hk hk' hd')
  rw [← tr_val es, show tr es = es.take (tl es es.length) from rfl] at h0
  rw [← tr_val ds, ← tr_val es, show tr ds = ds.take (tl ds ds.length) from rfl, show tr es = es.take (tl es es.length) from rfl]
  clear hd hd' hs hs'
  have hl1 : ds.length ≤ 1000000 := by omega
  have hl2 : es.length ≤ 1000000 := by omega
  generalize tl ds ds.length = k at *
  generalize tl es es.length = j at *
  generalize ds.take k = A at *
  generalize es.take j = B at *
  have hj0 : 0 < j := by
    rcases Nat.eq_zero_or_pos j with h | h
    · exfalso
      have : B = [] := List.length_eq_zero_iff.1 (by rw [HTR'.out, h])
      rw [this] at h0; exact h0 rfl
    · exact h
  have hj0b : ((j : Int) == 0) = false := by rw [beq_eq_false_iff_ne]; omega
  have HB0 := hid h0
  have HBL := hid (val_lt HSM'.out)
  have HAL := hid (val_lt HSM.out)
  rw [HTR'.out] at HBL
  rw [HTR.out] at HAL
  clear h0
  have M := Mem.start w []
  go_enter Salg.func142, Salg.ntmps142
  go_wp2_with fail
  refine HTRIM.out.mono ?_; rintro e w1 ⟨rfl, rfl⟩
  go_wp2_with fail
  refine HTRIM'.out.mono ?_; rintro e w1 ⟨rfl, rfl⟩
  go_wp2_with (first
    | ((with_reducible apply W_make8 (dst := 24) (n := k) M); rfl; rfl; omega; omega; omega; exact Salg.underlying89; exact info5; clear M; intro b1 w2 hb1 M; simp only [Act.put, List.setIfInBounds_toArray, List.set_cons_zero, List.set_cons_succ])
    | ((with_reducible apply W_make8 (dst := 28) (n := j + 1) M); rfl; rfl; omega; omega; omega; exact Salg.underlying89; exact info5; clear M; intro b2 w2 hb2 M; simp only [Act.put, List.setIfInBounds_toArray, List.set_cons_zero, List.set_cons_succ]))
  go_loopw [9] (fun iv wr => ∃ (i : Nat) (quo rem : List Nat), i ≤ 8 * k ∧ iv = .int .i64 i ∧ quo.length = k ∧ rem.length = j + 1 ∧ Small quo ∧ Small rem ∧ val quo = val A / 2 ^ i / val B * 2 ^ i ∧ val rem = val A / 2 ^ i % val B ∧
      Mem w1 [] [(b2, R8 5 rem), (b1, R8 5 quo)] wr) (fun iv _ => (intOf iv).toNat)
  case atStart =>
    have e : val A / 2 ^ (8 * k) = 0 := Nat.div_eq_of_lt (by rw [Nat.pow_mul]; exact HAL.out)
    exact ⟨8 * k, _, _, by omega, by go_num, by simp, by simp, small_replicate _, small_replicate _, by rw [val_replicate, e]; simp, by rw [val_replicate, e]; simp, M⟩
  case round =>
    clear M
    obtain ⟨i, quo, rem, hi, rfl, hql, hrl, hqs, hrs, hqv, hrv, M⟩ := hrel
    have HQS := hid hqs
    have HRS := hid hrs
    have HQV := hid hqv
    have HRV := hid hrv
    clear hqs hrs hqv hrv
    match i, hi, HQV, HRV with
    | 0, hi, HQV, HRV =>
      have hlq : quo.length ≤ 1000000 := by omega
      have hlr : rem.length ≤ 1000000 := by omega
      have HN1 := hid (NatV.row M.r1 HQS.out hlq)
      have HN2 := hid (NatV.row M.r0 HRS.out hlr)
      rw [hql] at HN1
      rw [hrl] at HN2
      go_wp2_with fail
      refine (clip_any _ quo _ HN1.out).mono ?_
      rintro e w3 ⟨r, rfl, hr, rfl⟩
      have HR := hid hr
      clear hr
      go_wp2_with fail
      refine (clip_any _ rem _ HN2.out).mono ?_
      rintro e w3 ⟨s, rfl, hs, rfl⟩
      have HS := hid hs
      clear hs
      go_wp2_with fail
      go_ret3
      refine ⟨_, _, rfl, ⟨_, HR.out, tr_tight _, ?_⟩, ⟨_, HS.out, tr_tight _, ?_⟩, M.kept⟩
      · rw [tr_val, HQV.out]; simp
      · rw [tr_val, HRV.out]; simp
    | i + 1, hi, HQV, HRV =>
      have hiA : i / 8 < A.length := by rw [HTR.out]; omega
      obtain ⟨b, t, cs, rfl, hr, hpre⟩ := HDT.out.at hiA
      have hga := pre_get hpre hiA
      have hxa := HSM.out.get hiA
      have HBIT := hid (bit_of_val HSM.out hiA)
      generalize A[i / 8] = x at *
      have HBB := hid (Nat.lt_succ_iff.1 (Nat.mod_lt (x / 2 ^ (i % 8)) (show 0 < 2 by decide)))
      have HAND := hid (and1_int (n := i % 8) hxa)
      go_wp2_with ((with_reducible apply W_loadCell); rfl; (first | with_reducible exact M.r0 | with_reducible exact M.r1 | with_reducible exact M.r2 | with_reducible exact M.r3 | with_reducible exact M.r4 | with_reducible exact M.r5 | with_reducible exact M.r6 | assumption | exact M.kept.row (by assumption) (by simp)); (first | exact get_map (by assumption) | exact get_map rfl | rfl); exact Salg.underlying5; rfl; simp only [Act.put, List.setIfInBounds_toArray, List.set_cons_zero, List.set_cons_succ])
      rw [HAND.out]
      have hbt := HBB.out
      generalize x / 2 ^ (i % 8) % 2 = bt at *
      clear HAND HBB
      go_loopw [12, 52] (fun cv nv wr => ∃ (n c : Nat) (cur : List Nat), n ≤ j + 1 ∧ nv = .int .i64 n ∧ cv = .int .u8 c ∧ c ≤ 1 ∧ cur.length = j + 1 ∧ Small cur ∧ cur.drop n = rem.drop n ∧
          val cur + 256 ^ n * c = val rem + (bt + val (rem.take n)) ∧ Mem w1 [] [(b2, R8 5 cur), (b1, R8 5 quo)] wr) (fun _ nv _ => j + 1 - (intOf nv).toNat)
      case atStart => exact ⟨0, bt, rem, by omega, rfl, rfl, hbt, hrl, HRS.out, rfl, by simp [val], M⟩
      case round =>
        clear M
        obtain ⟨n, c, cur, hn, rfl, rfl, hc1, hcl, hcs, hcd, hcv, M⟩ := hrel
        have HCS := hid hcs
        have HCD := hid hcd
        have HCV := hid hcv
        clear hcs hcd hcv
        by_cases hnj : n < j + 1
        · have hnc : n < cur.length := by omega
          have hnr : n < rem.length := by omega
          have hgc : cur[n]? = some cur[n] := List.getElem?_eq_getElem hnc
          have hdb := HCS.out.get hnc
          have hsame : cur[n] = rem[n] := by
            have := congrArg List.head? HCD.out
            rw [List.head?_drop, List.head?_drop, List.getElem?_eq_getElem hnc, List.getElem?_eq_getElem hnr] at this
            simpa using this
          have HSET := hid (fun y => val_set (l := cur) y hnc)
          have HTK := hid (val_take_succ hnr)
          rw [← hsame] at HTK
          clear hsame
          generalize cur[n] = d at *
          go_wp2_with (first
            | ((with_reducible apply W_loadCell); rfl; (first | with_reducible exact M.r0 | with_reducible exact M.r1 | with_reducible exact M.r2 | with_reducible exact M.r3 | with_reducible exact M.r4 | with_reducible exact M.r5 | with_reducible exact M.r6 | assumption | exact M.kept.row (by assumption) (by simp)); (first | exact get_map (by assumption) | exact get_map rfl | rfl); exact Salg.underlying5; rfl; simp only [Act.put, List.setIfInBounds_toArray, List.set_cons_zero, List.set_cons_succ])
            | ((with_reducible apply W_st8_0 (m := 2 * d % 256 + c)); rfl; rfl; exact dbl_or hc1; exact M; exact Or.inr hb2; exact size5; omega; clear M; intro w2 M))
          go_roundw
          case rel =>
            refine ⟨n + 1, d / 128, cur.set n (2 * d % 256 + c), by omega, by go_num, by go_num, by omega, by simp [hcl], HCS.out.set (by omega), ?_, ?_, M⟩
            · rw [List.drop_set_of_lt (by omega), ← List.drop_drop, ← List.drop_drop, HCD.out]
            · rw [pow256_succ, dbl_step HCV.out (HSET.out _), HTK.out]; omega
          case measure => simp [intOf]; omega
        · have hnj' : n = j + 1 := by omega
          subst hnj'
          have hcz : c = 0 := by
            have h1 := HCV.out
            rw [List.take_of_length_le (by omega), HRV.out, pow256_succ] at h1
            have h2 := Nat.mod_lt (val A / 2 ^ (i + 1)) (Nat.pos_of_ne_zero HB0.out)
            have h3 := HBL.out
            rcases Nat.eq_zero_or_pos c with h | h
            · exact h
            · have : 256 * 256 ^ j * 1 ≤ 256 * 256 ^ j * c := Nat.mul_le_mul_left _ h
              omega
          have HCUR : Hid (val cur = 2 * (val A / 2 ^ (i + 1) % val B) + bt) := by
            have h1 := HCV.out
            rw [List.take_of_length_le (by omega), HRV.out, hcz] at h1
            show _ = _
            omega
          clear hcz HCV
          have HNC := hid (NatV.row M.r0 HCS.out (by omega))
          rw [hcl] at HNC
          have HNB : Hid (NatV wr (.slice q j j) B) := ⟨q, j, by rw [HTR'.out], by rw [HTR'.out]; omega, by omega, HDT'.out.kept M.kept, HSM'.out⟩
          have HDIV := hid (div_halves (val A) i)
          rw [← HBIT.out] at HDIV
          go_wp2_with fail
          refine (cmp_any _ _ cur B _ HNC.out HNB.out).mono ?_
          rintro e w5 ⟨rfl, K⟩
          replace M := M.call K
          clear K HNC HNB
          have HCMP := hid (cmpI_neg (val cur) (val B))
          by_cases hge : val B ≤ val cur
          · have hcm : ¬ cmpI (val cur) (val B) < 0 := fun h => by have := HCMP.out.1 h; omega
            have HGE := hid hge
            clear hge HCMP
            generalize cmpI (val cur) (val B) = cc at *
            have hcd : decide ((0 : Int) ≤ cc) = true := by simp; omega
            have hqb : q.map (·.block) ≠ some b2 := by
              obtain ⟨b', t', cs', hq, hr', _⟩ := HDT'.out.at (i := 0) (by rw [HTR'.out]; exact hj0)
              have := lt_of_row hr'
              rw [hq]; simp; omega
            have HTAKE := hid (take_any b2 5 q j cur B w5 M.r0 HCS.out (by omega) (by rw [HTR'.out]; omega) (by omega) (by rw [HTR'.out]; omega) (HDT'.out.kept M.kept) HSM'.out (fun _ => hqb))
            rw [hcl, HTR'.out] at HTAKE
            clear hqb
            go_wp2_with fail
            refine HTAKE.out.mono ?_
            rintro e w6 ⟨r, cur', rfl, hr1, hl', hs', hv', K, hrow⟩
            have HV' : Hid (val cur' + val B = val cur) := by
              have h1 := val_lt hs'
              rw [hl'] at h1
              have h2 := HGE.out
              have h3 : r = 0 := by
                rcases Nat.eq_zero_or_pos r with h | h
                · exact h
                · have : 256 ^ (j + 1) * 1 ≤ 256 ^ (j + 1) * r := Nat.mul_le_mul_left _ h
                  omega
              rw [h3] at hv'
              show _ = _
              omega
            have HS' := hid hs'
            replace M := Mem.callPut (L1 := []) M (Or.inr hb2) K hrow
            rw [List.nil_append] at M
            clear K hrow hs' hv' HTAKE
            have hiq : i / 8 < quo.length := by omega
            have hgq : quo[i / 8]? = some quo[i / 8] := List.getElem?_eq_getElem hiq
            have hgb := HQS.out.get hiq
            have HLOW := hid (digit_low HQS.out hiq HQV.out)
            have HSET := hid (fun y => val_set (l := quo) y hiq)
            generalize quo[i / 8] = g at *
            have hi8 : i % 8 < 8 := Nat.mod_lt _ (by decide)
            have HOLT := hid (or_bit_lt hgb hi8 HLOW.out)
            go_wp2_with (first
              | ((with_reducible apply W_loadCell); rfl; (first | with_reducible exact M.r0 | with_reducible exact M.r1 | with_reducible exact M.r2 | with_reducible exact M.r3 | with_reducible exact M.r4 | with_reducible exact M.r5 | with_reducible exact M.r6 | assumption | exact M.kept.row (by assumption) (by simp)); (first | exact get_map (by assumption) | exact get_map rfl | rfl); exact Salg.underlying5; rfl; simp only [Act.put, List.setIfInBounds_toArray, List.set_cons_zero, List.set_cons_succ])
              | ((with_reducible apply W_st8_1 (m := g + 2 ^ (i % 8))); rfl; rfl; exact or_bit hgb hi8 HLOW.out; exact M; exact Or.inr hb1; exact size5; omega; clear M; intro w2 M))
            go_roundw
            case rel =>
              obtain ⟨q1, q2⟩ := quo_up (m := val A / 2 ^ (i + 1)) (B := val B) (t := bt) (Nat.pos_of_ne_zero HB0.out) hbt (by rw [← HCUR.out]; exact HGE.out)
              refine ⟨i, quo.set (i / 8) (g + 2 ^ (i % 8)), cur', by omega, by go_num, by simp [hql], hl', HQS.out.set HOLT.out, HS'.out, ?_, ?_, M⟩
              · have h1 := HSET.out (g + 2 ^ (i % 8))
                rw [Nat.mul_add, pow_split8] at h1
                have h2 := HQV.out
                rw [HDIV.out, q1, Nat.add_mul, Nat.one_mul]
                generalize val A / 2 ^ (i + 1) / val B = m at h2 ⊢
                rw [Nat.pow_succ] at h2
                rw [show 2 * m * 2 ^ i = m * (2 ^ i * 2) by rw [Nat.mul_comm 2 m, Nat.mul_assoc, Nat.mul_comm 2]]
                omega
              · rw [HDIV.out, q2, ← HCUR.out]
                have := HV'.out
                omega
            case measure => simp [intOf]
          · have hcm : cmpI (val cur) (val B) < 0 := HCMP.out.2 (by omega)
            have HGE : Hid (val cur < val B) := by show _ < _; omega
            clear hge HCMP
            generalize cmpI (val cur) (val B) = cc at *
            have hcd : decide ((0 : Int) ≤ cc) = false := by simp; omega
            go_wp2_with fail
            go_roundw
            case rel =>
              obtain ⟨q1, q2⟩ := quo_keep (m := val A / 2 ^ (i + 1)) (B := val B) (t := bt) (Nat.pos_of_ne_zero HB0.out) (by rw [← HCUR.out]; exact HGE.out)
              refine ⟨i, quo, cur, by omega, by go_num, hql, hcl, HQS.out, HCS.out, ?_, ?_, M⟩
              · rw [HQV.out, HDIV.out, q1]
                generalize val A / 2 ^ (i + 1) / val B = m
                rw [Nat.pow_succ, Nat.mul_comm 2 m, Nat.mul_assoc, Nat.mul_comm 2]
              · rw [HDIV.out, q2, HCUR.out]
            case measure => simp [intOf]
end Go.Proofs.YgcsalGreat

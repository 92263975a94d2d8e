/-
  The walks of u256: ShiftUp, ShiftDown.
-/
import Derived.Test.YgcsalGreatNat2
import Derived.Test.YgcsalGreatPlainE
set_option linter.unusedSimpArgs false
namespace Go.Own
theorem pow_cast (n : Nat) : (2 : Int) ^ n = ((2 ^ n : Nat) : Int) := by rw [Int.natCast_pow]; rfl
theorem div_cast (d n : Nat) : (d : Int) / 2 ^ n = ((d / 2 ^ n : Nat) : Int) := by rw [pow_cast]; rfl
theorem wrap_shl (d s : Nat) : IntKind.u64.wrap ((d : Int) * 2 ^ s) = ((d * 2 ^ s % 18446744073709551616 : Nat) : Int) := by
  rw [pow_cast, ← Int.natCast_mul]
  generalize d * 2 ^ s = z
  rw [IntKind.wrap_u64]; omega
theorem up_or {d s c : Nat} (hs : s < 64) (hc : c < 2 ^ s) : bits .or .u64 (IntKind.u64.wrap ((d : Int) * 2 ^ s)) (c : Int) = ((d * 2 ^ s % 18446744073709551616 + c : Nat) : Int) := by
  have h := up_lt (x := d) hs hc
  rw [wrap_shl, bits_or_u64_nat _ _ (by omega) (by omega), or_add s (up_low hs) hc]
theorem down_or {x H s : Nat} (hs : s < 64) (hx : x < 18446744073709551616) : bits .or .u64 ((x : Int) / 2 ^ s) ((H % 2 ^ s * 2 ^ (64 - s) : Nat) : Int) = ((x / 2 ^ s + H % 2 ^ s * 2 ^ (64 - s) : Nat) : Int) := by
  obtain ⟨h1, h2⟩ := down_lt (H := H) hs hx
  have h3 := Nat.mul_mod_left (H % 2 ^ s) (2 ^ (64 - s))
  rw [div_cast]
  generalize H % 2 ^ s * 2 ^ (64 - s) = z at *
  generalize x / 2 ^ s = y at *
  rw [bits_or_u64_nat _ _ (by omega) (by omega), Nat.or_comm, or_add (64 - s) h3 h1, Nat.add_comm]
theorem wrap_shl_down {d s : Nat} (hs : s < 64) : IntKind.u64.wrap ((d : Int) * 2 ^ (64 - s)) = ((d % 2 ^ s * 2 ^ (64 - s) : Nat) : Int) := by
  rw [wrap_shl, down_carry hs]
end Go.Own
namespace Go.Proofs.YgcsalGreat
open Go.RowKit Go.Own

set_option maxHeartbeats 2000000 in
set_option maxRecDepth 100000 in
/-- ShiftUp: the first n limbs of the row, in place. -/
theorem shiftUp_any (b t n s : Nat) (l : List Nat) (w : World) (hr : w.heap[b]? = some (R64 t l)) (hL : Limbs l) (hn : n ≤ l.length) (hl : l.length ≤ 1000) (hs : s < 64) :
    Calls Salg.prog 232 #[.slice (some ⟨b, 0, none⟩) n n, .int .u8 s] w fun e w' => ∃ v l', e = .returned v ∧ l'.length = l.length ∧ Limbs l' ∧ l'.drop n = l.drop n ∧
      lval (l'.take n) = lval (l.take n) * 2 ^ s % 18446744073709551616 ^ n ∧ Kept [b] w w' ∧ w'.heap[b]? = some (R64 t l') := by
  have M : Mem w [b] [(b, R64 t l)] w := (Mem.start w [b]).add hr (by simp)
  have HL := hid hL
  clear hL hr
  have hs' : decide ((64 : Int) ≤ (s : Nat)) = false := by simp; omega
  go_enter Salg.func232, Salg.ntmps232
  go_wp2_with fail
  go_loopw [4, 11] (fun cv iv wr => ∃ (i c : Nat) (cur : List Nat), i ≤ n ∧ iv = .int .i64 i ∧ cv = .int .u64 c ∧ c < 2 ^ s ∧ cur.length = l.length ∧ Limbs cur ∧ cur.drop i = l.drop i ∧
      lval (cur.take i) + 18446744073709551616 ^ i * c = lval (l.take i) * 2 ^ s ∧ Mem w [b] [(b, R64 t cur)] wr) (fun _ iv _ => n - (intOf iv).toNat)
  case atStart => exact ⟨0, 0, l, by omega, rfl, rfl, Nat.pow_pos (by decide), rfl, HL.out, rfl, by simp [lval], M⟩
  case round =>
    clear M
    obtain ⟨i, c, cur, hi, rfl, rfl, hc, hcl, hcs, hcd, hcv, M⟩ := hrel
    have HCS := hid hcs
    have HCD := hid hcd
    have HCV := hid hcv
    have HC := hid hc
    clear hcs hcd hcv hc
    by_cases hin : i < n
    · have hic : i < cur.length := by omega
      have hil : i < l.length := by omega
      have hgc : cur[i]? = some cur[i] := List.getElem?_eq_getElem hic
      have hsame : cur[i] = l[i] := by
        have := congrArg List.head? HCD.out
        rw [List.head?_drop, List.head?_drop, List.getElem?_eq_getElem hic, List.getElem?_eq_getElem hil] at this
        simpa using this
      have hdb := HCS.out.get hic
      have HSET := hid (fun y => lval_set_take (l := cur) y hic)
      have HTK := hid (lval_take_succ hil)
      rw [← hsame] at HTK
      clear hsame
      generalize cur[i] = d at *
      go_wp2_with (first
        | ((with_reducible apply W_loadCell); rfl; (first | with_reducible exact M.r0 | with_reducible exact M.r1 | with_reducible exact M.r2 | with_reducible exact M.r3 | with_reducible exact M.r4 | with_reducible exact M.r5 | with_reducible exact M.r6 | assumption | exact M.kept.row (by assumption) (by simp)); (first | exact get_map (by assumption) | exact get_map rfl | rfl); exact Salg.underlying23; rfl; simp only [Act.put, List.setIfInBounds_toArray, List.set_cons_zero, List.set_cons_succ])
        | ((with_reducible apply W_st64_0 (m := d * 2 ^ s % 18446744073709551616 + c)); rfl; rfl; exact up_or hs HC.out; exact M; exact Or.inl (by simp); exact size23; omega; clear M; intro w2 M))
      go_roundw
      case rel =>
        refine ⟨i + 1, d / 2 ^ (64 - s), cur.set i (d * 2 ^ s % 18446744073709551616 + c), by omega, by go_num, by rw [div_cast], up_carry_lt hs hdb, by simp [hcl], HCS.out.set (up_lt hs HC.out), ?_, ?_, M⟩
        · rw [List.drop_set_of_lt (by omega), ← List.drop_drop, ← List.drop_drop, HCD.out]
        · rw [pow64_succ, up_step hs HCV.out (HSET.out _), HTK.out]
      case measure => simp [intOf]; omega
    · have hin' : i = n := by omega
      subst hin'
      go_wp2_with fail
      go_end0
      refine ⟨_, cur, rfl, hcl, HCS.out, HCD.out, ?_, M.kept, M.r0⟩
      have h1 := lval_lt (HCS.out.take i)
      rw [List.length_take, Nat.min_eq_left (by omega)] at h1
      rw [← HCV.out, Nat.add_mul_mod_self_left, Nat.mod_eq_of_lt h1]

set_option maxHeartbeats 1000000 in
set_option maxRecDepth 100000 in
theorem shiftUp_big (v : Value) (s : Nat) (w : World) (hs : 64 ≤ s) :
    Calls Salg.prog 232 #[v, .int .u8 s] w fun e w' => ∃ v, e = .returned v ∧ w' = w := by
  have hs' : decide ((64 : Int) ≤ (s : Nat)) = true := by simp; omega
  go_enter Salg.func232, Salg.ntmps232
  go_wp2_with fail
  refine bodyPost_ret (results_none Salg.results232 _ _ _) rfl ?_
  exact ⟨_, rfl, rfl⟩

set_option maxHeartbeats 1000000 in
set_option maxRecDepth 100000 in
theorem shiftDown_big (v : Value) (s : Nat) (w : World) (hs : 64 ≤ s) :
    Calls Salg.prog 234 #[v, .int .u8 s] w fun e w' => ∃ v, e = .returned v ∧ w' = w := by
  have hs' : decide ((64 : Int) ≤ (s : Nat)) = true := by simp; omega
  go_enter Salg.func234, Salg.ntmps234
  go_wp2_with fail
  refine bodyPost_ret (results_none Salg.results234 _ _ _) rfl ?_
  exact ⟨_, rfl, rfl⟩

set_option maxHeartbeats 2000000 in
set_option maxRecDepth 100000 in
/-- ShiftDown: the first n limbs of the row, in place. -/
theorem shiftDown_any (b t n s : Nat) (l : List Nat) (w : World) (hr : w.heap[b]? = some (R64 t l)) (hL : Limbs l) (hn : n ≤ l.length) (hl : l.length ≤ 1000) (hs : s < 64) :
    Calls Salg.prog 234 #[.slice (some ⟨b, 0, none⟩) n n, .int .u8 s] w fun e w' => ∃ v l', e = .returned v ∧ l'.length = l.length ∧ Limbs l' ∧ l'.drop n = l.drop n ∧
      lval (l'.take n) = lval (l.take n) / 2 ^ s ∧ Kept [b] w w' ∧ w'.heap[b]? = some (R64 t l') := by
  have M : Mem w [b] [(b, R64 t l)] w := (Mem.start w [b]).add hr (by simp)
  have HL := hid hL
  clear hL hr
  have hs' : decide ((64 : Int) ≤ (s : Nat)) = false := by simp; omega
  go_enter Salg.func234, Salg.ntmps234
  go_wp2_with fail
  go_loopw [4, 5] (fun cv iv wr => ∃ (i : Nat) (cur : List Nat), i ≤ n ∧ iv = .int .i64 i ∧ cv = .int .u64 ((lval ((l.take n).drop i) % 2 ^ s * 2 ^ (64 - s) : Nat) : Int) ∧ cur.length = l.length ∧ Limbs cur ∧ cur.take i = l.take i ∧ cur.drop n = l.drop n ∧
      lval ((cur.take n).drop i) = lval ((l.take n).drop i) / 2 ^ s ∧ Mem w [b] [(b, R64 t cur)] wr) (fun _ iv _ => (intOf iv).toNat)
  case atStart => exact ⟨n, l, by omega, rfl, by rw [List.drop_of_length_le (by simp; omega)]; simp [lval], rfl, HL.out, rfl, rfl, by rw [List.drop_of_length_le (by simp; omega)]; simp [lval], M⟩
  case round =>
    clear M
    obtain ⟨i, cur, hi, rfl, rfl, hcl, hcs, hct, hcd, hcv, M⟩ := hrel
    have HCS := hid hcs
    have HCT := hid hct
    have HCD := hid hcd
    have HCV := hid hcv
    clear hcs hct hcd hcv
    match i, hi, HCT, HCV with
    | 0, hi, HCT, HCV =>
      go_wp2_with fail
      go_end0
      exact ⟨_, cur, rfl, hcl, HCS.out, HCD.out, HCV.out, M.kept, M.r0⟩
    | i + 1, hi, HCT, HCV =>
      have hic : i < cur.length := by omega
      have hil : i < l.length := by omega
      have hgc : cur[i]? = some cur[i] := List.getElem?_eq_getElem hic
      have hsame : cur[i] = l[i] := by
        have := congrArg (·[i]?) HCT.out
        simp only [List.getElem?_take, Nat.lt_succ_self, if_true, List.getElem?_eq_getElem hic, List.getElem?_eq_getElem hil] at this
        simpa using this
      have hdb := HCS.out.get hic
      have hit : i < (l.take n).length := by simp; omega
      have hitc : i < (cur.take n).length := by simp; omega
      have HDR : Hid (lval ((l.take n).drop i) = cur[i] + 18446744073709551616 * lval ((l.take n).drop (i + 1))) := by
        show _ = _
        rw [lval_drop hit, List.getElem_take, hsame]
      have HSET := hid (fun y => lval_set_drop (l := cur.take n) y hitc)
      clear hsame
      generalize cur[i] = d at *
      generalize lval ((l.take n).drop (i + 1)) = H at *
      go_wp2_with (first
        | ((with_reducible apply W_loadCell); rfl; (first | with_reducible exact M.r0 | with_reducible exact M.r1 | with_reducible exact M.r2 | with_reducible exact M.r3 | with_reducible exact M.r4 | with_reducible exact M.r5 | with_reducible exact M.r6 | assumption | exact M.kept.row (by assumption) (by simp)); (first | exact get_map (by assumption) | exact get_map rfl | rfl); exact Salg.underlying23; rfl; simp only [Act.put, List.setIfInBounds_toArray, List.set_cons_zero, List.set_cons_succ])
        | ((with_reducible apply W_st64_0 (m := d / 2 ^ s + H % 2 ^ s * 2 ^ (64 - s))); rfl; rfl; exact down_or hs hdb; exact M; exact Or.inl (by simp); exact size23; omega; clear M; intro w2 M))
      go_roundw
      case rel =>
        refine ⟨i, cur.set i (d / 2 ^ s + H % 2 ^ s * 2 ^ (64 - s)), by omega, by go_num, by rw [wrap_shl_down hs, HDR.out, down_mod hs], by simp [hcl], HCS.out.set (down_lt hs hdb).2, ?_, ?_, ?_, M⟩
        · rw [List.take_set_of_le (Nat.le_refl i)]
          have := congrArg (List.take i) HCT.out
          rw [List.take_take, List.take_take, Nat.min_eq_left (by omega)] at this
          exact this
        · rw [List.drop_set_of_lt (by omega), HCD.out]
        · rw [List.take_set, HSET.out, HCV.out, HDR.out, down_step hs]
      case measure => simp [intOf]
end Go.Proofs.YgcsalGreat

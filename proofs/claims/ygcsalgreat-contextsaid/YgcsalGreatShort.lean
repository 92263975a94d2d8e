/-
  The walk of u256.short.
-/
import Derived.Test.YgcsalGreatPlainJ
import Derived.Test.YgcsalGreatDiv64
import Derived.Test.YgcsalGreatQuiet
set_option linter.unusedSimpArgs false
namespace Go.Own
theorem short_step {X L x y r : Nat} (h : X = L * y + r) : x + 18446744073709551616 * X = ((r * 18446744073709551616 + x) / y + 18446744073709551616 * L) * y + (r * 18446744073709551616 + x) % y := by
  have e := Nat.div_add_mod (r * 18446744073709551616 + x) y
  rw [Nat.add_mul, Nat.mul_comm _ y, Nat.mul_assoc]
  subst h
  generalize y * ((r * 18446744073709551616 + x) / y) = a at *
  generalize L * y = c at *
  omega
theorem short_lt {x y r : Nat} (hr : r < y) (hx : x < 18446744073709551616) : (r * 18446744073709551616 + x) / y < 18446744073709551616 := by
  rw [Nat.div_lt_iff_lt_mul (by omega)]
  have : (r + 1) * 18446744073709551616 ≤ y * 18446744073709551616 := Nat.mul_le_mul_right _ hr
  omega
end Go.Own
namespace Go.Proofs.YgcsalGreat
open Go.RowKit Go.Own

set_option maxHeartbeats 4000000 in
set_option maxRecDepth 100000 in
theorem short_any (b t top y : Nat) (xs : List Nat) (w : World) (hr : w.heap[b]? = some (R64 t xs)) (hx : xs.length = 8) (hL : Limbs xs) (ht : top ≤ 8) (hz : lval (xs.drop top) = 0) (hy : 0 < y) (hyl : y < 18446744073709551616) :
    Calls Salg.prog 230 #[.pointer (some ⟨b, 0, none⟩), .int .u8 top, .int .u64 y] w fun e w' =>
      e = .returned (n64 (lval xs % y)) ∧ Kept [b] w w' ∧ w'.heap[b]? = some (R64 t (nl 8 (lval xs / y))) := by
  have M : Mem w [b] [(b, R64 t xs)] w := (Mem.start w [b]).add hr (by simp)
  have HL := hid hL
  have HZ := hid hz
  clear hr hL hz
  go_enter Salg.func230, Salg.ntmps230
  go_wp2_with fail
  go_loopw [7, 8] (fun rv iv wr => ∃ (r i : Nat) (l : List Nat), i ≤ top ∧ rv = .int .u64 r ∧ iv = .int .u8 i ∧ r < y ∧ l.length = 8 ∧ Limbs l ∧ l.take i = xs.take i ∧ lval (xs.drop i) = lval (l.drop i) * y + r ∧
      Mem w [b] [(b, R64 t l)] wr) (fun _ iv _ => (intOf iv).toNat)
  case atStart => exact ⟨0, top, xs, Nat.le_refl _, rfl, rfl, hy, hx, HL.out, rfl, by rw [HZ.out]; simp, M⟩
  case round =>
    clear M
    obtain ⟨r, i, l, hi, rfl, rfl, hry, hl, hLl, htk, hv, M⟩ := hrel
    have HLL := hid hLl
    have HTK := hid htk
    have HV := hid hv
    clear hLl htk hv
    match i, hi, HTK, HV with
    | 0, hi, HTK, HV =>
      have HQ : Hid (lval l = lval xs / y ∧ r = lval xs % y) := by
        have h := HV.out
        rw [List.drop_zero, List.drop_zero] at h
        constructor
        · rw [h, Nat.mul_comm, Nat.mul_add_div hy, Nat.div_eq_of_lt hry, Nat.add_zero]
        · rw [h, Nat.mul_comm, Nat.mul_add_mod, Nat.mod_eq_of_lt hry]
      have HN := hid (eq_nl HLL.out hl HQ.out.1)
      go_wp2_with fail
      go_ret
      exact ⟨by rw [← HQ.out.2]; rfl, M.kept, by rw [← HN.out]; exact M.r0⟩
    | i + 1, hi, HTK, HV =>
      have hic : i < l.length := by omega
      have hil : i < xs.length := by omega
      have hsame : l[i] = xs[i] := by
        have := congrArg (·[i]?) HTK.out
        simp only [List.getElem?_take, Nat.lt_succ_self, if_true, List.getElem?_eq_getElem hic, List.getElem?_eq_getElem hil] at this
        simpa using this
      have hgc : l[i]? = some xs[i] := by rw [← hsame]; exact List.getElem?_eq_getElem hic
      have hxb := HL.out.get hil
      have HDX := hid (lval_drop hil)
      have HDR : Hid (∀ q, lval ((l.set i q).drop i) = q + 18446744073709551616 * lval (l.drop (i + 1))) := fun q => by
        rw [lval_drop (by simpa using hic), List.getElem_set_self, List.drop_set_of_lt (by omega)]
      clear hsame
      generalize xs[i] = x at *
      have HSS := hid (short_step (x := x) HV.out)
      have HDV := hid (fun w => div64_any r x y hry hxb hyl w)
      have hq := short_lt hry hxb
      have HR := hid (Nat.mod_lt (r * 18446744073709551616 + x) hy)
      generalize (r * 18446744073709551616 + x) / y = q at *
      generalize (r * 18446744073709551616 + x) % y = r2 at *
      go_wp2_with ((with_reducible apply W_loadCell); rfl; (first | with_reducible exact M.r0 | with_reducible exact M.r1 | with_reducible exact M.r2 | with_reducible exact M.r3 | with_reducible exact M.r4 | with_reducible exact M.r5 | with_reducible exact M.r6 | assumption | exact M.kept.row (by assumption) (by simp)); (first | exact get_map (by assumption) | exact get_map rfl | rfl); exact Salg.underlying23; rfl; simp only [Act.put, List.setIfInBounds_toArray, List.set_cons_zero, List.set_cons_succ])
      refine (HDV.out _).mono ?_
      rintro e w1 ⟨rfl, K⟩
      replace M := M.call K
      clear K HDV
      go_wp2_with ((with_reducible apply W_st64_0 (m := q)); rfl; rfl; rfl; exact M; exact Or.inl (by simp); exact size23; omega; clear M; intro w2 M)
      go_roundw
      case rel =>
        refine ⟨r2, i, l.set i q, by omega, by go_num, by go_num, HR.out, by simp [hl], HLL.out.set hq, ?_, ?_, M⟩
        · rw [List.take_set_of_le (Nat.le_refl i)]
          have := congrArg (List.take i) HTK.out
          rw [List.take_take, List.take_take, Nat.min_eq_left (by omega)] at this
          exact this
        · rw [HDX.out, HDR.out, HSS.out]
      case measure => simp [intOf]
end Go.Proofs.YgcsalGreat

/-
  The walks of nat.Pow2, law.limbsNat, law.limbsOf.
-/
import Derived.Test.YgcsalGreatNat1
import Derived.Test.YgcsalGreatPlainB
import Derived.Test.YgcsalGreatWordBack
set_option linter.unusedSimpArgs false
namespace Go.Own
/-- A slice of limbs. -/
def LimbV (w : World) (v : Value) (xs : List Nat) : Prop := ∃ b o c t cs, v = .slice (some ⟨b, o, none⟩) xs.length c ∧ xs.length ≤ 1000 ∧ w.heap[b]? = some (R64 t cs) ∧ (∀ i x, xs[i]? = some x → cs[o + i]? = some x) ∧ Limbs xs
theorem val_pow2 (k : Nat) : val ((List.replicate (k / 8 + 1) 0).set (k / 8) (2 ^ (k % 8))) = 2 ^ k := by
  rw [List.replicate_succ', List.set_append_right _ _ (by simp)]
  simp only [List.length_replicate, Nat.sub_self, List.set_cons_zero]
  rw [val_snoc, val_replicate, List.length_replicate, Nat.zero_add, show (256 : Nat) = 2 ^ 8 from rfl, ← Nat.pow_mul, ← Nat.pow_add]
  congr 1
  omega
theorem tight_pow2 (k : Nat) : Tight ((List.replicate (k / 8 + 1) 0).set (k / 8) (2 ^ (k % 8))) := by
  intro x hx
  rw [List.replicate_succ', List.set_append_right _ _ (by simp)] at hx
  simp only [List.length_replicate, Nat.sub_self, List.set_cons_zero] at hx
  rw [List.getLast?_concat] at hx
  cases hx
  exact Nat.ne_of_gt (Nat.pow_pos (by decide))
theorem pow_int (k : Nat) : (2 : Int) ^ (k % 8) % 256 = ((2 ^ (k % 8) : Nat) : Int) := by
  have : 2 ^ (k % 8) < 256 := Nat.lt_of_le_of_lt (Nat.pow_le_pow_right (by decide) (show k % 8 ≤ 7 by omega)) (by decide)
  have e : (2 : Int) ^ (k % 8) = ((2 ^ (k % 8) : Nat) : Int) := by rw [Int.natCast_pow]; rfl
  rw [e]
  generalize 2 ^ (k % 8) = z at *
  omega
theorem pow_small (k : Nat) : 2 ^ (k % 8) < 256 := Nat.lt_of_le_of_lt (Nat.pow_le_pow_right (by decide) (show k % 8 ≤ 7 by omega)) (by decide)
theorem div_pow_int (x n : Nat) : (x : Int) / 2 ^ n % 256 = ((x / 2 ^ n % 256 : Nat) : Int) := by
  have e : (2 : Int) ^ n = ((2 ^ n : Nat) : Int) := by rw [Int.natCast_pow]; rfl
  rw [e]
  rfl
theorem fill_set {l : List Nat} {n k : Nat} (y : Nat) (hl : l.length = k) (hk : k < n) : (l ++ List.replicate (n - k) 0).set k y = (l ++ [y]) ++ List.replicate (n - (k + 1)) 0 := by
  rw [List.set_append_right _ _ (by omega), hl, Nat.sub_self, show n - k = (n - (k + 1)) + 1 from by omega, List.replicate_succ, List.set_cons_zero, List.append_assoc]
  rfl
theorem shl8_or_wrap {x c : Nat} (hc : c < 256) : bits .or .u64 (IntKind.u64.wrap ((x : Int) * 256)) (c : Int) = ((x * 256 % 18446744073709551616 + c : Nat) : Int) := by
  rw [IntKind.wrap_u64]
  have e : ((x : Int) * 256) % 18446744073709551616 = ((x * 256 % 18446744073709551616 : Nat) : Int) := by omega
  rw [e, bits_or_u64_nat _ _ (by omega) (by omega), or_add 8 (by omega) (by omega)]
end Go.Own
namespace Go.Proofs.YgcsalGreat
open Go.RowKit Go.Own

set_option maxHeartbeats 1000000 in
set_option maxRecDepth 100000 in
theorem pow2_any (k : Nat) (hk : k < 65536) (w : World) :
    Calls Salg.prog 74 #[.int .u16 k] w fun e w' => ∃ u, e = .returned u ∧ NumV w' u (2 ^ k) ∧ Kept [] w w' := by
  have M := Mem.start w []
  have hp := pow_small k
  go_enter Salg.func74, Salg.ntmps74
  go_wp2_with (first
      | ((with_reducible apply W_make8 (n := k / 8 + 1) M); rfl; rfl; omega; omega; omega; exact Salg.underlying89; exact info5; clear M; intro b1 w2 hb1 M; simp only [Act.put, List.setIfInBounds_toArray, List.set_cons_zero, List.set_cons_succ])
      | ((with_reducible apply W_st8_0); rfl; rfl; exact pow_int k; exact M; exact Or.inr hb1; exact size5; simp; clear M; intro w2 M))
  go_ret
  have hs : Small ((List.replicate (k / 8 + 1) 0).set (k / 8) (2 ^ (k % 8))) := (small_replicate _).set hp
  have := NatV.row M.r0 hs (by simp; omega)
  simp only [List.length_set, List.length_replicate] at this
  exact ⟨_, rfl, ⟨_, this, tight_pow2 k, val_pow2 k⟩, M.kept⟩

set_option maxHeartbeats 1000000 in
set_option maxRecDepth 100000 in
theorem limbsNat_any (v : Value) (xs : List Nat) (w : World) (hv : LimbV w v xs) :
    Calls Salg.prog 206 #[v] w fun e w' => ∃ u, e = .returned u ∧ NumV w' u (lval xs) ∧ Kept [] w w' := by
  obtain ⟨b, o, c, t, cs, rfl, hlen, hr, hcs, hL⟩ := hv
  have M := Mem.start w []
  have HV := hid (ldigs_val_all xs hL)
  have HCS := hid hcs
  clear hcs
  go_enter Salg.func206, Salg.ntmps206
  go_wp2_with ((with_reducible apply W_make8 (n := 8 * xs.length) M); rfl; rfl; omega; omega; omega; exact Salg.underlying89; exact info5; clear M; intro b1 w2 hb1 M; simp only [Act.put, List.setIfInBounds_toArray, List.set_cons_zero, List.set_cons_succ])
  go_loopw [11] (fun i wr => ∃ k : Nat, k ≤ 8 * xs.length ∧ i = .int .i64 k ∧ Mem w [] [(b1, R8 5 (ldigs xs k ++ List.replicate (8 * xs.length - k) 0))] wr) (fun i _ => 8 * xs.length - (intOf i).toNat)
  case atStart => exact ⟨0, by omega, rfl, M⟩
  case round =>
    obtain ⟨k, hk, rfl, M⟩ := hrel
    by_cases hlt : k < 8 * xs.length
    · have hg := HCS.out (k / 8) xs[k / 8] (List.getElem?_eq_getElem (by omega))
      have hx := hL.get (k := k / 8) (by omega)
      have HD : Hid (ldig xs k = xs[k / 8] / 2 ^ (8 * (k % 8)) % 256) := by show _ / _ % _ = _; rw [getD_get (by omega)]
      generalize xs[k / 8] = x at *
      go_wp2_with (first
        | ((with_reducible apply W_loadCell); rfl; (first | with_reducible exact M.r0 | with_reducible exact M.r1 | with_reducible exact M.r2 | with_reducible exact M.r3 | with_reducible exact M.r4 | with_reducible exact M.r5 | with_reducible exact M.r6 | assumption | exact M.kept.row (by assumption) (by simp)); (first | exact get_map (by assumption) | exact get_map rfl | rfl); exact Salg.underlying23; rfl; simp only [Act.put, List.setIfInBounds_toArray, List.set_cons_zero, List.set_cons_succ])
        | ((with_reducible apply W_st8_0); rfl; rfl; exact div_pow_int _ _; exact M; exact Or.inr hb1; exact size5; (simp [ldigs_length]; omega); clear M; intro w2 M))
      rw [← HD.out, fill_set _ (ldigs_length xs k) hlt, ← ldigs_succ] at M
      go_roundw
      case rel => exact ⟨k + 1, by omega, by go_num, M⟩
      case measure => simp [intOf]; omega
    · have hk8 : k = 8 * xs.length := by omega
      subst hk8
      rw [Nat.sub_self, List.replicate_zero, List.append_nil] at M
      have hll := ldigs_length xs (8 * xs.length)
      go_wp2_with fail
      refine (norm_any _ (ldigs xs (8 * xs.length)) _ (by have := NatV.row M.r0 (ldigs_small xs _) (by omega); rw [hll] at this; exact this)).mono ?_
      rintro e w3 ⟨u, rfl, hu, K⟩
      have HU := hid hu
      replace M := M.call K
      clear hu K
      go_wp2_with fail
      go_ret
      exact ⟨_, rfl, ⟨_, HU.out, tr_tight _, by rw [tr_val, HV.out]⟩, M.kept⟩
end Go.Proofs.YgcsalGreat

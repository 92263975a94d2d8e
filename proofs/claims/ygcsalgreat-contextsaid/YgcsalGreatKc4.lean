/-
  The walks of kmodel.chi and kmodel.iota0.
-/
import Derived.Test.YgcsalGreatKc3
set_option linter.unusedSimpArgs false
set_option linter.unusedVariables false
namespace Go.Own
def chiB (f : Nat → Bool) (j : Nat) : Bool := f j != (f ((j / 320 + 2) % 5 * 320 + j / 64 % 5 * 64 + j % 64) && !f ((j / 320 + 1) % 5 * 320 + j / 64 % 5 * 64 + j % 64))
def chS (f : Nat → Bool) (x y z : Nat) (j : Nat) : Bool := if j < x * 320 + y * 64 + z then chiB f j else false
theorem chS_start (f : Nat → Bool) {j : Nat} : false = chS f 0 0 0 j := by
  unfold chS
  rw [if_neg (by omega)]
theorem chS_end (f : Nat → Bool) {j : Nat} (h : j < 1600) : chS f 5 0 0 j = chiB f j := by
  unfold chS
  rw [if_pos (by omega)]
theorem chS_row (f : Nat → Bool) {x y j : Nat} : chS f x y 64 j = chS f x (y + 1) 0 j := by
  unfold chS
  rw [show x * 320 + y * 64 + 64 = x * 320 + (y + 1) * 64 + 0 by omega]
theorem chS_col (f : Nat → Bool) {x j : Nat} : chS f x 5 0 j = chS f (x + 1) 0 0 j := by
  unfold chS
  rw [show x * 320 + 5 * 64 + 0 = (x + 1) * 320 + 0 * 64 + 0 by omega]
theorem chS_step (f : Nat → Bool) {x y z j : Nat} (hx : x < 5) (hy : y < 5) (hz : z < 64) : upd (chS f x y z) (x * 320 + y * 64 + z) (f (x * 320 + y * 64 + z) != (f ((x + 2) % 5 * 320 + y * 64 + z) && !f ((x + 1) % 5 * 320 + y * 64 + z))) j = chS f x y (z + 1) j := by
  unfold upd chS
  by_cases h : j = x * 320 + y * 64 + z
  · subst h
    rw [if_pos rfl, if_pos (by omega), chiB, show (x * 320 + y * 64 + z) / 320 = x by omega, show (x * 320 + y * 64 + z) / 64 % 5 = y by omega, show (x * 320 + y * 64 + z) % 64 = z by omega]
  · rw [if_neg h]
    by_cases h1 : j < x * 320 + y * 64 + z
    · rw [if_pos h1, if_pos (by omega)]
    · rw [if_neg h1, if_neg (by omega)]
def bN (b : Bool) : Nat := if b then 1 else 0
theorem bN_gt (p q : Bool) : decide (bN q < bN p) = (p && !q) := by cases p <;> cases q <;> rfl
theorem bN_lt (b : Bool) : bN b < 256 := by cases b <;> decide
def iotaB (f : Nat → Bool) (c : Nat) (j : Nat) : Bool := if j < 64 then f j != c.testBit j else f j
def ioS (f : Nat → Bool) (c z : Nat) (j : Nat) : Bool := if j < z then f j != c.testBit j else f j
theorem ioS_step (f : Nat → Bool) {c z j : Nat} : upd (ioS f c z) z (ioS f c z z != c.testBit z) j = ioS f c (z + 1) j := by
  unfold upd ioS
  by_cases h : j = z
  · subst h
    rw [if_pos rfl, if_neg (by omega), if_pos (by omega)]
  · rw [if_neg h]
    by_cases h1 : j < z
    · rw [if_pos h1, if_pos (by omega)]
    · rw [if_neg h1, if_neg (by omega)]
theorem ioS_start (f : Nat → Bool) {c j : Nat} : f j = ioS f c 0 j := by
  unfold ioS
  rw [if_neg (by omega)]
end Go.Own
namespace Go.Proofs.YgcsalGreat
open Go.RowKit Go.Own
theorem bit_kept (b : Bool) (w : World) : Calls Salg.prog 252 #[.bool b] w fun e w' => e = .returned (n8 (bN b)) ∧ Kept [] w w' := by
  refine (bit_any b w).mono ?_
  rintro e w2 ⟨h1, rfl⟩
  exact ⟨h1, Kept.refl _ _⟩
theorem constN_lt7 (i : Nat) : constN i 7 < 18446744073709551616 := by
  have h := constN_lt i 6 (by decide)
  rw [constN]
  split
  · exact Nat.or_lt_two_pow (n := 64) h (by decide)
  · exact h
theorem bit_of (c z : Nat) (hc : c < 18446744073709551616) : (bits .and .u64 ((c : Int) / 2 ^ z) 1 == 1) = c.testBit z := by
  show decide (bits .and .u64 ((c : Int) / 2 ^ z) 1 = 1) = c.testBit z
  have h1 : c / 2 ^ z ≤ c := Nat.div_le_self _ _
  have e : ((c : Int) / 2 ^ z) = ((c / 2 ^ z : Nat) : Int) := by
    rw [Int.natCast_ediv]
    simp
  rw [e, show (1 : Int) = ((1 : Nat) : Int) from rfl, bits_and_u64_nat _ _ (by omega) (by decide), Nat.and_one_is_mod, Nat.testBit_eq_decide_div_mod_eq]
  simp only [Int.natCast_inj]

set_option maxHeartbeats 4000000 in
set_option maxRecDepth 100000 in
theorem chi_any (b t : Nat) (f : Nat → Bool) (w : World) (hr : w.heap[b]? = some (RB t 1600 f)) : Calls Salg.prog 238 #[.pointer (some ⟨b, 0, none⟩)] w fun e w' => e = .returned (.agg (BA 1600 (chiB f))) ∧ Kept [] w w' := by
  have M := (Mem.start w []).add hr (by simp)
  have HBT := hid bit_kept
  clear hr
  go_enter Salg.func238, Salg.ntmps238
  go_wp2_with ((with_reducible apply L_allocA (d := 2) M); exact zero284; clear M; intro b2 w1 hb2 M; simp only [Act.put, List.setIfInBounds_toArray, List.set_cons_zero, List.set_cons_succ])
  have hb2x : b2 ∈ ([] : List Nat) ∨ w.heap.size ≤ b2 := Or.inr hb2
  go_loopw [10] (fun iv wr => ∃ x : Nat, x ≤ 5 ∧ iv = .int .i64 (x : Int) ∧ Mem w [] [(b2, RB 284 1600 (chS f x 0 0)), (b, RB t 1600 f)] wr) (fun iv _ => (5 - intOf iv).toNat)
  case atStart => exact ⟨0, by omega, rfl, Mem.rb0 M fun i hi => chS_start f⟩
  case round =>
    clear M
    obtain ⟨x, hx, rfl, M⟩ := hrel
    rcases Nat.lt_or_ge x 5 with hlt | hge
    · go_wp2_with fail
      go_loopw [13] (fun iv wr => ∃ y : Nat, y ≤ 5 ∧ iv = .int .i64 (y : Int) ∧ Mem w [] [(b2, RB 284 1600 (chS f x y 0)), (b, RB t 1600 f)] wr) (fun iv _ => (5 - intOf iv).toNat)
      case atStart => exact ⟨0, by omega, rfl, M⟩
      case round =>
        clear M
        obtain ⟨y, hy, rfl, M⟩ := hrel
        rcases Nat.lt_or_ge y 5 with hly | hgy
        · go_wp2_with fail
          go_loopw [42] (fun iv wr => ∃ z : Nat, z ≤ 64 ∧ iv = .int .i64 (z : Int) ∧ Mem w [] [(b2, RB 284 1600 (chS f x y z)), (b, RB t 1600 f)] wr) (fun iv _ => (64 - intOf iv).toNat)
          case atStart => exact ⟨0, by omega, rfl, M⟩
          case round =>
            clear M
            obtain ⟨z, hz, rfl, M⟩ := hrel
            rcases Nat.lt_or_ge z 64 with hlz | hgz
            · go_wp2_with fail
              refine S_region (by kernel_rfl) ?_
              refine V_quiet 0 23 (by kernel_rfl) (by decide) M.drew ?_
              clear M
              simp only [List.take_succ_cons, List.take_zero, List.drop_zero, List.drop_succ_cons, Nat.sub_zero, Nat.reduceSub]
              ((with_reducible apply V_run); rfl; (intro w M; go_simp; (try go_ints); (try simp only [↓IntWalk.iteOmega]); (try with_reducible rfl)); simp only [Act.put, List.setIfInBounds_toArray, List.set_cons_zero, List.set_cons_succ])
              ((with_reducible apply V_run); rfl; (intro w M; go_simp; (try go_ints); (try simp only [↓IntWalk.iteOmega]); (try with_reducible rfl)); simp only [Act.put, List.setIfInBounds_toArray, List.set_cons_zero, List.set_cons_succ])
              ((with_reducible apply V_run); rfl; (intro w M; go_simp; (try go_ints); (try simp only [↓IntWalk.iteOmega]); (try with_reducible rfl)); simp only [Act.put, List.setIfInBounds_toArray, List.set_cons_zero, List.set_cons_succ])
              ((with_reducible apply V_run); rfl; (intro w M; go_simp; (try go_ints); (try simp only [↓IntWalk.iteOmega]); (try with_reducible rfl)); simp only [Act.put, List.setIfInBounds_toArray, List.set_cons_zero, List.set_cons_succ])
              ((with_reducible apply V_run); rfl; (intro w M; go_simp; (try go_ints); (try simp only [↓IntWalk.iteOmega]); (try with_reducible rfl)); simp only [Act.put, List.setIfInBounds_toArray, List.set_cons_zero, List.set_cons_succ])
              ((with_reducible apply V_run); rfl; (intro w M; go_simp; (try go_ints); (try simp only [↓IntWalk.iteOmega]); (try with_reducible rfl)); simp only [Act.put, List.setIfInBounds_toArray, List.set_cons_zero, List.set_cons_succ])
              ((with_reducible apply V_run); rfl; (intro w M; exact run_loadB (i := x * 320 + y * 64 + z) M.r1 (by first | rfl | (congr 3; omega) | (simp; omega)) (by omega) Salg.underlying4); simp only [Act.put, List.setIfInBounds_toArray, List.set_cons_zero, List.set_cons_succ])
              ((with_reducible apply V_run); rfl; (intro w M; go_simp; (try go_ints); (try simp only [↓IntWalk.iteOmega]); (try with_reducible rfl)); simp only [Act.put, List.setIfInBounds_toArray, List.set_cons_zero, List.set_cons_succ])
              ((with_reducible apply V_run); rfl; (intro w M; go_simp; (try go_ints); (try simp only [↓IntWalk.iteOmega]); (try with_reducible rfl)); simp only [Act.put, List.setIfInBounds_toArray, List.set_cons_zero, List.set_cons_succ])
              ((with_reducible apply V_run); rfl; (intro w M; go_simp; (try go_ints); (try simp only [↓IntWalk.iteOmega]); (try with_reducible rfl)); simp only [Act.put, List.setIfInBounds_toArray, List.set_cons_zero, List.set_cons_succ])
              ((with_reducible apply V_run); rfl; (intro w M; go_simp; (try go_ints); (try simp only [↓IntWalk.iteOmega]); (try with_reducible rfl)); simp only [Act.put, List.setIfInBounds_toArray, List.set_cons_zero, List.set_cons_succ])
              ((with_reducible apply V_run); rfl; (intro w M; exact run_loadB (i := (x + 2) % 5 * 320 + y * 64 + z) M.r1 (by first | rfl | (congr 3; omega) | (simp; omega)) (by omega) Salg.underlying4); simp only [Act.put, List.setIfInBounds_toArray, List.set_cons_zero, List.set_cons_succ])
              refine V_call rfl Salg.func252 (by kernel_rfl) (by kernel_rfl) (args := [.bool (f ((x + 2) % 5 * 320 + y * 64 + z))]) rfl (fun w M => HBT.out _ w) ?_
              simp only [Act.put, List.setIfInBounds_toArray, List.set_cons_zero, List.set_cons_succ]
              ((with_reducible apply V_run); rfl; (intro w M; go_simp; (try go_ints); (try simp only [↓IntWalk.iteOmega]); (try with_reducible rfl)); simp only [Act.put, List.setIfInBounds_toArray, List.set_cons_zero, List.set_cons_succ])
              ((with_reducible apply V_run); rfl; (intro w M; go_simp; (try go_ints); (try simp only [↓IntWalk.iteOmega]); (try with_reducible rfl)); simp only [Act.put, List.setIfInBounds_toArray, List.set_cons_zero, List.set_cons_succ])
              ((with_reducible apply V_run); rfl; (intro w M; go_simp; (try go_ints); (try simp only [↓IntWalk.iteOmega]); (try with_reducible rfl)); simp only [Act.put, List.setIfInBounds_toArray, List.set_cons_zero, List.set_cons_succ])
              ((with_reducible apply V_run); rfl; (intro w M; go_simp; (try go_ints); (try simp only [↓IntWalk.iteOmega]); (try with_reducible rfl)); simp only [Act.put, List.setIfInBounds_toArray, List.set_cons_zero, List.set_cons_succ])
              ((with_reducible apply V_run); rfl; (intro w M; exact run_loadB (i := (x + 1) % 5 * 320 + y * 64 + z) M.r1 (by first | rfl | (congr 3; omega) | (simp; omega)) (by omega) Salg.underlying4); simp only [Act.put, List.setIfInBounds_toArray, List.set_cons_zero, List.set_cons_succ])
              refine V_call rfl Salg.func252 (by kernel_rfl) (by kernel_rfl) (args := [.bool (f ((x + 1) % 5 * 320 + y * 64 + z))]) rfl (fun w M => HBT.out _ w) ?_
              simp only [Act.put, List.setIfInBounds_toArray, List.set_cons_zero, List.set_cons_succ]
              ((with_reducible apply V_run); rfl; (intro w M; go_simp; (try go_ints); (try simp only [↓IntWalk.iteOmega]); (try with_reducible rfl)); simp only [Act.put, List.setIfInBounds_toArray, List.set_cons_zero, List.set_cons_succ])
              ((with_reducible apply V_run); rfl; (intro w M; go_simp; (try go_ints); (try simp only [↓IntWalk.iteOmega]); (try with_reducible rfl)); simp only [Act.put, List.setIfInBounds_toArray, List.set_cons_zero, List.set_cons_succ])
              ((with_reducible apply V_run); rfl; (intro w M; go_simp; (try go_ints); (try simp only [↓IntWalk.iteOmega]); (try with_reducible rfl)); simp only [Act.put, List.setIfInBounds_toArray, List.set_cons_zero, List.set_cons_succ])
              ((with_reducible apply V_run); rfl; (intro w M; go_simp; (try go_ints); (try simp only [↓IntWalk.iteOmega]); (try with_reducible rfl)); simp only [Act.put, List.setIfInBounds_toArray, List.set_cons_zero, List.set_cons_succ])
              refine V_nil ?_
              intro w4 M
              refine S_seg 23 24 (by kernel_rfl) (by decide) ?_
              simp only [List.take_succ_cons, List.take_zero, List.drop_zero, List.drop_succ_cons, Nat.sub_zero, Nat.reduceSub]
              have HB2 := hid bN_gt
              go_wp2_with ((with_reducible apply W_stB (L1 := []) (b := b2) (o := x * 320 + y * 64 + z) (v := _)); exact (by first | rfl | (congr 3; omega) | (simp; omega)); rfl; exact M; exact hb2x; exact size4; omega; clear M; intro w5 M; simp only [List.cons_append, List.nil_append] at M)
              refine S_done ?_
              rw [HB2.out] at M
              replace M := Mem.rb0 M fun j hj => chS_step f (x := x) (y := y) (z := z) (j := j) hlt hly hlz
              go_wp2_with fail
              go_roundw
              case rel => exact ⟨z + 1, by omega, by go_num, M⟩
              case measure => simp [intOf]; omega
            · have e : z = 64 := by omega
              subst e
              replace M := Mem.rb0 M fun j hj => chS_row f (x := x) (y := y) (j := j)
              go_wp2_with fail
              go_roundw
              case rel => exact ⟨y + 1, by omega, by go_num, M⟩
              case measure => simp [intOf]; omega
        · have e : y = 5 := by omega
          subst e
          replace M := Mem.rb0 M fun j hj => chS_col f (x := x) (j := j)
          go_wp2_with fail
          go_roundw
          case rel => exact ⟨x + 1, by omega, by go_num, M⟩
          case measure => simp [intOf]; omega
    · have e : x = 5 := by omega
      subst e
      replace M := Mem.rb0 M fun j hj => chS_end f hj
      go_wp2_with (first
        | ((with_reducible apply W_loadAll); rfl; exact M.r0; exact Salg.underlying284; rfl; (rw [BA_size]; exact size284); simp only [Act.put, List.setIfInBounds_toArray, List.set_cons_zero, List.set_cons_succ])
        | ((with_reducible apply W_storeK (b := b2) (vs := BA 1600 (chiB f))); rfl; rfl; exact M.r0; (rw [BA_size]; exact size284); exact (BA_size _ _).trans (BA_size _ _).symm; exact BA_one _ _; intro w6 K hr3; replace M := Mem.callPut (L1 := []) (o' := RB 284 1600 (chiB f)) M hb2x K hr3; clear K hr3; simp only [List.cons_append, List.nil_append] at M))
      exact ret_cell1 Salg.results238 rfl M.r0 Salg.underlying284 rfl (by rw [BA_size]; exact size284) rfl ⟨rfl, M.kept⟩

set_option maxHeartbeats 4000000 in
set_option maxRecDepth 100000 in
theorem iota_any (b t i : Nat) (f : Nat → Bool) (w : World) (hr : w.heap[b]? = some (RB t 1600 f)) (hi : i < 24) : Calls Salg.prog 239 #[.pointer (some ⟨b, 0, none⟩), n8 i] w fun e w' => ∃ r, e = .returned r ∧ w'.heap[b]? = some (RB t 1600 (iotaB f (constN i 7))) ∧ Kept [b] w w' := by
  have M := (Mem.start w [b]).add hr (by simp)
  have hbx : b ∈ [b] ∨ w.heap.size ≤ b := Or.inl (by simp)
  have HCO := hid (fun w' => const_any i w' hi)
  have hc : constN i 7 < 18446744073709551616 := constN_lt7 i
  clear hr
  generalize constN i 7 = c at *
  go_enter Salg.func239, Salg.ntmps239
  go_wp2_with fail
  refine (HCO.out _).mono ?_
  rintro e w1 ⟨rfl, K1⟩
  replace M := M.call K1
  clear K1
  replace M := Mem.rb0 M fun j hj => ioS_start f (c := c) (j := j)
  go_wp2_with fail
  go_loopw [8] (fun iv wr => ∃ z : Nat, z ≤ 64 ∧ iv = .int .i64 (z : Int) ∧ Mem w [b] [(b, RB t 1600 (ioS f c z))] wr) (fun iv _ => (64 - intOf iv).toNat)
  case atStart => exact ⟨0, by omega, rfl, M⟩
  case round =>
    clear M
    obtain ⟨z, hz, rfl, M⟩ := hrel
    rcases Nat.lt_or_ge z 64 with hlz | hgz
    · have HBO := hid (bit_of c z hc)
      go_wp2_with fail
      refine S_region (by kernel_rfl) ?_
      refine V_quiet 0 19 (by kernel_rfl) (by decide) M.drew ?_
      clear M
      simp only [List.take_succ_cons, List.take_zero, List.drop_zero, List.drop_succ_cons, Nat.sub_zero, Nat.reduceSub]
      ((with_reducible apply V_run); rfl; (intro w M; go_simp; (try go_ints); (try simp only [↓IntWalk.iteOmega]); (try with_reducible rfl)); simp only [Act.put, List.setIfInBounds_toArray, List.set_cons_zero, List.set_cons_succ])
      ((with_reducible apply V_run); rfl; (intro w M; go_simp; (try go_ints); (try simp only [↓IntWalk.iteOmega]); (try with_reducible rfl)); simp only [Act.put, List.setIfInBounds_toArray, List.set_cons_zero, List.set_cons_succ])
      ((with_reducible apply V_run); rfl; (intro w M; go_simp; (try go_ints); (try simp only [↓IntWalk.iteOmega]); (try with_reducible rfl)); simp only [Act.put, List.setIfInBounds_toArray, List.set_cons_zero, List.set_cons_succ])
      ((with_reducible apply V_run); rfl; (intro w M; go_simp; (try go_ints); (try simp only [↓IntWalk.iteOmega]); (try with_reducible rfl)); simp only [Act.put, List.setIfInBounds_toArray, List.set_cons_zero, List.set_cons_succ])
      ((with_reducible apply V_run); rfl; (intro w M; go_simp; (try go_ints); (try simp only [↓IntWalk.iteOmega]); (try with_reducible rfl)); simp only [Act.put, List.setIfInBounds_toArray, List.set_cons_zero, List.set_cons_succ])
      ((with_reducible apply V_run); rfl; (intro w M; go_simp; (try go_ints); (try simp only [↓IntWalk.iteOmega]); (try with_reducible rfl)); simp only [Act.put, List.setIfInBounds_toArray, List.set_cons_zero, List.set_cons_succ])
      ((with_reducible apply V_run); rfl; (intro w M; go_simp; (try go_ints); (try simp only [↓IntWalk.iteOmega]); (try with_reducible rfl)); simp only [Act.put, List.setIfInBounds_toArray, List.set_cons_zero, List.set_cons_succ])
      ((with_reducible apply V_run); rfl; (intro w M; go_simp; (try go_ints); (try simp only [↓IntWalk.iteOmega]); (try with_reducible rfl)); simp only [Act.put, List.setIfInBounds_toArray, List.set_cons_zero, List.set_cons_succ])
      ((with_reducible apply V_run); rfl; (intro w M; exact run_loadB (i := z) M.r0 (by first | rfl | (congr 3; omega) | (simp; omega)) (by omega) Salg.underlying4); simp only [Act.put, List.setIfInBounds_toArray, List.set_cons_zero, List.set_cons_succ])
      ((with_reducible apply V_run); rfl; (intro w M; go_simp; (try go_ints); (try simp only [↓IntWalk.iteOmega]); (try with_reducible rfl)); simp only [Act.put, List.setIfInBounds_toArray, List.set_cons_zero, List.set_cons_succ])
      ((with_reducible apply V_run); rfl; (intro w M; go_simp; (try go_ints); (try simp only [↓IntWalk.iteOmega]); (try with_reducible rfl)); simp only [Act.put, List.setIfInBounds_toArray, List.set_cons_zero, List.set_cons_succ])
      ((with_reducible apply V_run); rfl; (intro w M; go_simp; (try go_ints); (try simp only [↓IntWalk.iteOmega]); (try with_reducible rfl)); simp only [Act.put, List.setIfInBounds_toArray, List.set_cons_zero, List.set_cons_succ])
      ((with_reducible apply V_run); rfl; (intro w M; go_simp; (try go_ints); (try simp only [↓IntWalk.iteOmega]); (try with_reducible rfl)); simp only [Act.put, List.setIfInBounds_toArray, List.set_cons_zero, List.set_cons_succ])
      ((with_reducible apply V_run); rfl; (intro w M; go_simp; (try go_ints); (try simp only [↓IntWalk.iteOmega]); (try with_reducible rfl)); simp only [Act.put, List.setIfInBounds_toArray, List.set_cons_zero, List.set_cons_succ])
      ((with_reducible apply V_run); rfl; (intro w M; go_simp; (try go_ints); (try simp only [↓IntWalk.iteOmega]); (try with_reducible rfl)); simp only [Act.put, List.setIfInBounds_toArray, List.set_cons_zero, List.set_cons_succ])
      ((with_reducible apply V_run); rfl; (intro w M; go_simp; (try go_ints); (try simp only [↓IntWalk.iteOmega]); (try with_reducible rfl)); simp only [Act.put, List.setIfInBounds_toArray, List.set_cons_zero, List.set_cons_succ])
      ((with_reducible apply V_run); rfl; (intro w M; go_simp; (try go_ints); (try simp only [↓IntWalk.iteOmega]); (try with_reducible rfl)); simp only [Act.put, List.setIfInBounds_toArray, List.set_cons_zero, List.set_cons_succ])
      ((with_reducible apply V_run); rfl; (intro w M; go_simp; (try go_ints); (try simp only [↓IntWalk.iteOmega]); (try with_reducible rfl)); simp only [Act.put, List.setIfInBounds_toArray, List.set_cons_zero, List.set_cons_succ])
      ((with_reducible apply V_run); rfl; (intro w M; go_simp; (try go_ints); (try simp only [↓IntWalk.iteOmega]); (try with_reducible rfl)); simp only [Act.put, List.setIfInBounds_toArray, List.set_cons_zero, List.set_cons_succ])
      refine V_nil ?_
      intro w4 M
      refine S_seg 19 20 (by kernel_rfl) (by decide) ?_
      simp only [List.take_succ_cons, List.take_zero, List.drop_zero, List.drop_succ_cons, Nat.sub_zero, Nat.reduceSub]
      go_wp2_with ((with_reducible apply W_stB (L1 := []) (b := b) (o := z) (v := _)); exact (by first | rfl | (congr 3; omega) | (simp; omega)); rfl; exact M; exact hbx; exact size4; omega; clear M; intro w5 M; simp only [List.cons_append, List.nil_append] at M)
      refine S_done ?_
      rw [HBO.out] at M
      replace M := Mem.rb0 M fun j hj => ioS_step f (c := c) (z := z) (j := j)
      go_wp2_with fail
      go_roundw
      case rel => exact ⟨z + 1, by omega, by go_num, M⟩
      case measure => simp [intOf]; omega
    · have e : z = 64 := by omega
      subst e
      go_wp2_with fail
      go_end0
      exact ⟨_, rfl, M.r0, M.kept⟩
end Go.Proofs.YgcsalGreat

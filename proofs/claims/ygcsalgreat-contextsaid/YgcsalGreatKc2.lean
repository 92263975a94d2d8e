/-
  The walk of kmodel.theta.
-/
import Derived.Test.YgcsalGreatKc1
set_option linter.unusedSimpArgs false
set_option linter.unusedVariables false
namespace Go.Own
/-- The sum of the first k lanes at column and place j. -/
def colB (f : Nat → Bool) : Nat → Nat → Bool
  | 0, _ => false
  | k + 1, j => colB f k j != f (j / 64 * 320 + k * 64 + j % 64)
/-- The columns' sums on the way. -/
def colS (f : Nat → Bool) (x y z : Nat) (j : Nat) : Bool := if j / 64 < x then colB f 5 j else if j / 64 = x then (if j % 64 < z then colB f (y + 1) j else colB f y j) else false
def mixB (f : Nat → Bool) (x z : Nat) : Bool := colB f 5 ((x + 4) % 5 * 64 + z) != colB f 5 ((x + 1) % 5 * 64 + (z + 63) % 64)
def thetaB (f : Nat → Bool) (j : Nat) : Bool := f j != mixB f (j / 320) (j % 64)
theorem colS_start (f : Nat → Bool) (j : Nat) : false = colS f 0 0 0 j := by
  unfold colS
  by_cases h : j / 64 = 0
  · rw [if_neg (by omega), if_pos h, if_neg (by omega)]
    rfl
  · rw [if_neg (by omega), if_neg h]
theorem colS_step (f : Nat → Bool) {x y z j : Nat} (hz : z < 64) (hj : j < 320) : upd (colS f x y z) (x * 64 + z) (colS f x y z (x * 64 + z) != f (x * 320 + y * 64 + z)) j = colS f x y (z + 1) j := by
  unfold upd
  by_cases h : j = x * 64 + z
  · subst h
    rw [if_pos rfl]
    have h1 : (x * 64 + z) / 64 = x := by omega
    have h2 : (x * 64 + z) % 64 = z := by omega
    unfold colS
    rw [h1, h2, if_neg (by omega), if_pos rfl, if_neg (by omega), if_neg (by omega), if_pos rfl, if_pos (by omega), colB, h1, h2]
  · rw [if_neg h]
    unfold colS
    by_cases h1 : j / 64 < x
    · rw [if_pos h1, if_pos h1]
    · rw [if_neg h1, if_neg h1]
      by_cases h2 : j / 64 = x
      · rw [if_pos h2, if_pos h2]
        by_cases h3 : j % 64 < z
        · rw [if_pos h3, if_pos (by omega)]
        · rw [if_neg h3, if_neg (by omega)]
      · rw [if_neg h2, if_neg h2]
theorem colS_row (f : Nat → Bool) {x y j : Nat} : colS f x y 64 j = colS f x (y + 1) 0 j := by
  unfold colS
  by_cases h1 : j / 64 < x
  · rw [if_pos h1, if_pos h1]
  · rw [if_neg h1, if_neg h1]
    by_cases h2 : j / 64 = x
    · rw [if_pos h2, if_pos h2, if_pos (by omega), if_neg (by omega)]
    · rw [if_neg h2, if_neg h2]
theorem colS_col (f : Nat → Bool) {x j : Nat} : colS f x 5 0 j = colS f (x + 1) 0 0 j := by
  unfold colS
  by_cases h1 : j / 64 < x
  · rw [if_pos h1, if_pos (by omega)]
  · rw [if_neg h1]
    by_cases h2 : j / 64 = x
    · rw [if_pos h2, if_neg (by omega), if_pos (by omega)]
    · rw [if_neg h2, if_neg (by omega)]
      split
      · rw [if_neg (by omega)]
        rfl
      · rfl
theorem colS_end (f : Nat → Bool) {j : Nat} (hj : j < 320) : colS f 5 0 0 j = colB f 5 j := by
  unfold colS
  rw [if_pos (by omega)]
/-- The state on the way: columns below x are mixed, and lanes below y of column x, and places below z of lane y. -/
def thS (f : Nat → Bool) (x y z : Nat) (j : Nat) : Bool := if j < x * 320 + y * 64 + z then thetaB f j else f j
theorem thS_step (f : Nat → Bool) {x y z j : Nat} (hx : x < 5) (hy : y < 5) (hz : z < 64) : upd (thS f x y z) (x * 320 + y * 64 + z) (thS f x y z (x * 320 + y * 64 + z) != mixB f x z) j = thS f x y (z + 1) j := by
  unfold upd thS
  by_cases h : j = x * 320 + y * 64 + z
  · subst h
    rw [if_pos rfl, if_neg (by omega), if_pos (by omega), thetaB, show (x * 320 + y * 64 + z) / 320 = x by omega, show (x * 320 + y * 64 + z) % 64 = z by omega]
  · rw [if_neg h]
    by_cases h1 : j < x * 320 + y * 64 + z
    · rw [if_pos h1, if_pos (by omega)]
    · rw [if_neg h1, if_neg (by omega)]
theorem thS_row (f : Nat → Bool) {x y j : Nat} : thS f x y 64 j = thS f x (y + 1) 0 j := by
  unfold thS
  rw [show x * 320 + y * 64 + 64 = x * 320 + (y + 1) * 64 + 0 by omega]
theorem thS_col (f : Nat → Bool) {x j : Nat} : thS f x 5 0 j = thS f (x + 1) 0 0 j := by
  unfold thS
  rw [show x * 320 + 5 * 64 + 0 = (x + 1) * 320 + 0 * 64 + 0 by omega]
def mixS (f : Nat → Bool) (x z : Nat) (j : Nat) : Bool := if j < z then mixB f x j else false
theorem mixS_step (f : Nat → Bool) {x z j : Nat} : upd (mixS f x z) z (mixB f x z) j = mixS f x (z + 1) j := by
  unfold upd mixS
  by_cases h : j = z
  · subst h
    rw [if_pos rfl, if_pos (by omega)]
  · rw [if_neg h]
    by_cases h1 : j < z
    · rw [if_pos h1, if_pos (by omega)]
    · rw [if_neg h1, if_neg (by omega)]
theorem thS_start (f : Nat → Bool) {j : Nat} : f j = thS f 0 0 0 j := by
  unfold thS
  rw [if_neg (by omega)]
theorem thS_end (f : Nat → Bool) {j : Nat} (hj : j < 1600) : thS f 5 0 0 j = thetaB f j := by
  unfold thS
  rw [if_pos (by omega)]
theorem mixS_start (f : Nat → Bool) {x j : Nat} : false = mixS f x 0 j := by
  unfold mixS
  rw [if_neg (by omega)]
theorem mixS_end (f : Nat → Bool) {x j : Nat} (hj : j < 64) : mixS f x 64 j = mixB f x j := by
  unfold mixS
  rw [if_pos hj]
theorem Mem.rb2 {w0 w : World} {X : List Nat} {p q : Nat × Obj} {L2 : List (Nat × Obj)} {b t n : Nat} {f g : Nat → Bool} (M : Mem w0 X (p :: q :: (b, RB t n f) :: L2) w) (h : ∀ i, i < n → f i = g i) : Mem w0 X (p :: q :: (b, RB t n g) :: L2) w := Mem.rb (L1 := [p, q]) M h
end Go.Own
namespace Go.Proofs.YgcsalGreat
open Go.RowKit Go.Own
theorem zero282 : ((Salg.prog.info? 282).bind (·.zero)) = some (.agg (BA 320 fun _ => false)) := by kernel_rfl
theorem zero281 : ((Salg.prog.info? 281).bind (·.zero)) = some (.agg (BA 64 fun _ => false)) := by kernel_rfl

set_option maxHeartbeats 4000000 in
set_option maxRecDepth 100000 in
theorem theta_any (b t : Nat) (f : Nat → Bool) (w : World) (hr : w.heap[b]? = some (RB t 1600 f)) : Calls Salg.prog 235 #[.pointer (some ⟨b, 0, none⟩)] w fun e w' => ∃ r, e = .returned r ∧ w'.heap[b]? = some (RB t 1600 (thetaB f)) ∧ Kept [b] w w' := by
  have M := (Mem.start w [b]).add hr (by simp)
  have hbx : b ∈ [b] ∨ w.heap.size ≤ b := Or.inl (by simp)
  clear hr
  go_enter Salg.func235, Salg.ntmps235
  go_wp2_with ((with_reducible apply L_allocA (d := 2) M); exact zero282; clear M; intro b2 w1 hb2 M; simp only [Act.put, List.setIfInBounds_toArray, List.set_cons_zero, List.set_cons_succ])
  have hb2x : b2 ∈ [b] ∨ w.heap.size ≤ b2 := Or.inr hb2
  go_loopw [16] (fun iv wr => ∃ x : Nat, x ≤ 5 ∧ iv = .int .i64 (x : Int) ∧ Mem w [b] [(b2, RB 282 320 (colS f x 0 0)), (b, RB t 1600 f)] wr) (fun iv _ => (5 - intOf iv).toNat)
  case atStart => exact ⟨0, by omega, rfl, Mem.rb0 M fun i hi => colS_start f i⟩
  case round =>
    clear M
    obtain ⟨x, hx, rfl, M⟩ := hrel
    rcases Nat.lt_or_ge x 5 with hlt | hge
    · go_wp2_with fail
      go_loopw [19] (fun iv wr => ∃ y : Nat, y ≤ 5 ∧ iv = .int .i64 (y : Int) ∧ Mem w [b] [(b2, RB 282 320 (colS f x y 0)), (b, RB t 1600 f)] wr) (fun iv _ => (5 - intOf iv).toNat)
      case atStart => exact ⟨0, by omega, rfl, M⟩
      case round =>
        clear M
        obtain ⟨y, hy, rfl, M⟩ := hrel
        rcases Nat.lt_or_ge y 5 with hly | hgy
        · go_wp2_with fail
          go_loopw [28] (fun iv wr => ∃ z : Nat, z ≤ 64 ∧ iv = .int .i64 (z : Int) ∧ Mem w [b] [(b2, RB 282 320 (colS f x y z)), (b, RB t 1600 f)] wr) (fun iv _ => (64 - intOf iv).toNat)
          case atStart => exact ⟨0, by omega, rfl, M⟩
          case round =>
            clear M
            obtain ⟨z, hz, rfl, M⟩ := hrel
            rcases Nat.lt_or_ge z 64 with hlz | hgz
            · go_wp2_with fail
              refine S_region (by kernel_rfl) ?_
              refine V_quiet 0 6 (by kernel_rfl) (by decide) M.drew ?_
              clear M
              simp only [List.take_succ_cons, List.take_zero, List.drop_zero, List.drop_succ_cons, Nat.sub_zero, Nat.reduceSub]
              ((with_reducible apply V_run); rfl; (intro w M; go_simp; (try go_ints); (try simp only [↓IntWalk.iteOmega]); (try with_reducible rfl)); simp only [Act.put, List.setIfInBounds_toArray, List.set_cons_zero, List.set_cons_succ])
              ((with_reducible apply V_run); rfl; (intro w M; go_simp; (try go_ints); (try simp only [↓IntWalk.iteOmega]); (try with_reducible rfl)); simp only [Act.put, List.setIfInBounds_toArray, List.set_cons_zero, List.set_cons_succ])
              ((with_reducible apply V_run); rfl; (intro w M; go_simp; (try go_ints); (try simp only [↓IntWalk.iteOmega]); (try with_reducible rfl)); simp only [Act.put, List.setIfInBounds_toArray, List.set_cons_zero, List.set_cons_succ])
              ((with_reducible apply V_run); rfl; (intro w M; exact run_loadB (i := x * 320 + y * 64 + z) M.r1 (by first | rfl | (congr 3; omega) | (simp; omega)) (by omega) Salg.underlying4); simp only [Act.put, List.setIfInBounds_toArray, List.set_cons_zero, List.set_cons_succ])
              ((with_reducible apply V_run); rfl; (intro w M; go_simp; (try go_ints); (try simp only [↓IntWalk.iteOmega]); (try with_reducible rfl)); simp only [Act.put, List.setIfInBounds_toArray, List.set_cons_zero, List.set_cons_succ])
              ((with_reducible apply V_run); rfl; (intro w M; go_simp; (try go_ints); (try simp only [↓IntWalk.iteOmega]); (try with_reducible rfl)); simp only [Act.put, List.setIfInBounds_toArray, List.set_cons_zero, List.set_cons_succ])
              refine V_nil ?_
              intro w4 M
              refine S_done ?_
              go_wp2_with fail
              refine S_region (by kernel_rfl) ?_
              refine V_quiet 0 11 (by kernel_rfl) (by decide) M.drew ?_
              clear M
              simp only [List.take_succ_cons, List.take_zero, List.drop_zero, List.drop_succ_cons, Nat.sub_zero, Nat.reduceSub]
              ((with_reducible apply V_run); rfl; (intro w M; go_simp; (try go_ints); (try simp only [↓IntWalk.iteOmega]); (try with_reducible rfl)); simp only [Act.put, List.setIfInBounds_toArray, List.set_cons_zero, List.set_cons_succ])
              ((with_reducible apply V_run); rfl; (intro w M; go_simp; (try go_ints); (try simp only [↓IntWalk.iteOmega]); (try with_reducible rfl)); simp only [Act.put, List.setIfInBounds_toArray, List.set_cons_zero, List.set_cons_succ])
              ((with_reducible apply V_run); rfl; (intro w M; go_simp; (try go_ints); (try simp only [↓IntWalk.iteOmega]); (try with_reducible rfl)); simp only [Act.put, List.setIfInBounds_toArray, List.set_cons_zero, List.set_cons_succ])
              ((with_reducible apply V_run); rfl; (intro w M; go_simp; (try go_ints); (try simp only [↓IntWalk.iteOmega]); (try with_reducible rfl)); simp only [Act.put, List.setIfInBounds_toArray, List.set_cons_zero, List.set_cons_succ])
              ((with_reducible apply V_run); rfl; (intro w M; go_simp; (try go_ints); (try simp only [↓IntWalk.iteOmega]); (try with_reducible rfl)); simp only [Act.put, List.setIfInBounds_toArray, List.set_cons_zero, List.set_cons_succ])
              ((with_reducible apply V_run); rfl; (intro w M; go_simp; (try go_ints); (try simp only [↓IntWalk.iteOmega]); (try with_reducible rfl)); simp only [Act.put, List.setIfInBounds_toArray, List.set_cons_zero, List.set_cons_succ])
              ((with_reducible apply V_run); rfl; (intro w M; exact run_loadB (i := x * 64 + z) M.r0 (by first | rfl | (congr 3; omega) | (simp; omega)) (by omega) Salg.underlying4); simp only [Act.put, List.setIfInBounds_toArray, List.set_cons_zero, List.set_cons_succ])
              ((with_reducible apply V_run); rfl; (intro w M; go_simp; (try go_ints); (try simp only [↓IntWalk.iteOmega]); (try with_reducible rfl)); simp only [Act.put, List.setIfInBounds_toArray, List.set_cons_zero, List.set_cons_succ])
              ((with_reducible apply V_run); rfl; (intro w M; go_simp; (try go_ints); (try simp only [↓IntWalk.iteOmega]); (try with_reducible rfl)); simp only [Act.put, List.setIfInBounds_toArray, List.set_cons_zero, List.set_cons_succ])
              ((with_reducible apply V_run); rfl; (intro w M; go_simp; (try go_ints); (try simp only [↓IntWalk.iteOmega]); (try with_reducible rfl)); simp only [Act.put, List.setIfInBounds_toArray, List.set_cons_zero, List.set_cons_succ])
              ((with_reducible apply V_run); rfl; (intro w M; go_simp; (try go_ints); (try simp only [↓IntWalk.iteOmega]); (try with_reducible rfl)); simp only [Act.put, List.setIfInBounds_toArray, List.set_cons_zero, List.set_cons_succ])
              refine V_nil ?_
              intro w4 M
              refine S_seg 11 12 (by kernel_rfl) (by decide) ?_
              simp only [List.take_succ_cons, List.take_zero, List.drop_zero, List.drop_succ_cons, Nat.sub_zero, Nat.reduceSub]
              go_wp2_with ((with_reducible apply W_stB (L1 := []) (b := b2) (o := x * 64 + z) (v := _)); exact (by first | rfl | (congr 3; omega) | (simp; omega)); rfl; exact M; exact hb2x; exact size4; omega; clear M; intro w5 M; simp only [List.cons_append, List.nil_append] at M)
              refine S_done ?_
              replace M := Mem.rb0 M fun j hj => colS_step f (x := x) (y := y) (z := z) (j := j) hlz hj
              go_wp2_with fail
              go_roundw
              case rel => exact ⟨z + 1, by omega, by go_num, M⟩
              case measure => simp [intOf]; omega
            · have e : z = 64 := by omega
              subst e
              replace M := Mem.rb0 M fun j hj => colS_row f (x := x) (y := y) (j := j)
              go_wp2_with fail
              go_roundw
              case rel => exact ⟨y + 1, by omega, by go_num, M⟩
              case measure => simp [intOf]; omega
        · have e : y = 5 := by omega
          subst e
          replace M := Mem.rb0 M fun j hj => colS_col f (x := x) (j := j)
          go_wp2_with fail
          go_roundw
          case rel => exact ⟨x + 1, by omega, by go_num, M⟩
          case measure => simp [intOf]; omega
    · have e : x = 5 := by omega
      subst e
      replace M := Mem.rb0 M fun j hj => colS_end f hj
      replace M := Mem.rb1 M fun j hj => thS_start f (j := j)
      go_wp2_with fail
      go_loopw [48] (fun iv wr => ∃ x : Nat, x ≤ 5 ∧ iv = .int .i64 (x : Int) ∧ Mem w [b] [(b2, RB 282 320 (colB f 5)), (b, RB t 1600 (thS f x 0 0))] wr) (fun iv _ => (5 - intOf iv).toNat)
      case atStart => exact ⟨0, by omega, rfl, M⟩
      case round =>
        clear M
        obtain ⟨x, hx, rfl, M⟩ := hrel
        rcases Nat.lt_or_ge x 5 with hlt | hge
        · go_wp2_with ((with_reducible apply L_allocA (d := 10) M); exact zero281; clear M; intro b10 w2 hb10 M; simp only [Act.put, List.setIfInBounds_toArray, List.set_cons_zero, List.set_cons_succ])
          have hb10x : b10 ∈ [b] ∨ w.heap.size ≤ b10 := Or.inr hb10
          replace M := Mem.rb0 M fun j hj => mixS_start f (x := x) (j := j)
          go_loopw [59] (fun iv wr => ∃ z : Nat, z ≤ 64 ∧ iv = .int .i64 (z : Int) ∧ Mem w [b] [(b10, RB 281 64 (mixS f x z)), (b2, RB 282 320 (colB f 5)), (b, RB t 1600 (thS f x 0 0))] wr) (fun iv _ => (64 - intOf iv).toNat)
          case atStart => exact ⟨0, by omega, rfl, M⟩
          case round =>
            clear M
            obtain ⟨z, hz, rfl, M⟩ := hrel
            rcases Nat.lt_or_ge z 64 with hlz | hgz
            · go_wp2_with fail
              refine S_region (by kernel_rfl) ?_
              refine V_quiet 0 15 (by kernel_rfl) (by decide) M.drew ?_
              clear M
              simp only [List.take_succ_cons, List.take_zero, List.drop_zero, List.drop_succ_cons, Nat.sub_zero, Nat.reduceSub]
              ((with_reducible apply V_run); rfl; (intro w M; go_simp; (try go_ints); (try simp only [↓IntWalk.iteOmega]); (try with_reducible rfl)); simp only [Act.put, List.setIfInBounds_toArray, List.set_cons_zero, List.set_cons_succ])
              ((with_reducible apply V_run); rfl; (intro w M; go_simp; (try go_ints); (try simp only [↓IntWalk.iteOmega]); (try with_reducible rfl)); simp only [Act.put, List.setIfInBounds_toArray, List.set_cons_zero, List.set_cons_succ])
              ((with_reducible apply V_run); rfl; (intro w M; go_simp; (try go_ints); (try simp only [↓IntWalk.iteOmega]); (try with_reducible rfl)); simp only [Act.put, List.setIfInBounds_toArray, List.set_cons_zero, List.set_cons_succ])
              ((with_reducible apply V_run); rfl; (intro w M; go_simp; (try go_ints); (try simp only [↓IntWalk.iteOmega]); (try with_reducible rfl)); simp only [Act.put, List.setIfInBounds_toArray, List.set_cons_zero, List.set_cons_succ])
              ((with_reducible apply V_run); rfl; (intro w M; go_simp; (try go_ints); (try simp only [↓IntWalk.iteOmega]); (try with_reducible rfl)); simp only [Act.put, List.setIfInBounds_toArray, List.set_cons_zero, List.set_cons_succ])
              ((with_reducible apply V_run); rfl; (intro w M; exact run_loadB (i := (x + 4) % 5 * 64 + z) M.r1 (by first | rfl | (congr 3; omega) | (simp; omega)) (by omega) Salg.underlying4); simp only [Act.put, List.setIfInBounds_toArray, List.set_cons_zero, List.set_cons_succ])
              ((with_reducible apply V_run); rfl; (intro w M; go_simp; (try go_ints); (try simp only [↓IntWalk.iteOmega]); (try with_reducible rfl)); simp only [Act.put, List.setIfInBounds_toArray, List.set_cons_zero, List.set_cons_succ])
              ((with_reducible apply V_run); rfl; (intro w M; go_simp; (try go_ints); (try simp only [↓IntWalk.iteOmega]); (try with_reducible rfl)); simp only [Act.put, List.setIfInBounds_toArray, List.set_cons_zero, List.set_cons_succ])
              ((with_reducible apply V_run); rfl; (intro w M; go_simp; (try go_ints); (try simp only [↓IntWalk.iteOmega]); (try with_reducible rfl)); simp only [Act.put, List.setIfInBounds_toArray, List.set_cons_zero, List.set_cons_succ])
              ((with_reducible apply V_run); rfl; (intro w M; go_simp; (try go_ints); (try simp only [↓IntWalk.iteOmega]); (try with_reducible rfl)); simp only [Act.put, List.setIfInBounds_toArray, List.set_cons_zero, List.set_cons_succ])
              ((with_reducible apply V_run); rfl; (intro w M; go_simp; (try go_ints); (try simp only [↓IntWalk.iteOmega]); (try with_reducible rfl)); simp only [Act.put, List.setIfInBounds_toArray, List.set_cons_zero, List.set_cons_succ])
              ((with_reducible apply V_run); rfl; (intro w M; go_simp; (try go_ints); (try simp only [↓IntWalk.iteOmega]); (try with_reducible rfl)); simp only [Act.put, List.setIfInBounds_toArray, List.set_cons_zero, List.set_cons_succ])
              ((with_reducible apply V_run); rfl; (intro w M; exact run_loadB (i := (x + 1) % 5 * 64 + (z + 63) % 64) M.r1 (by first | rfl | (congr 3; omega) | (simp; omega)) (by omega) Salg.underlying4); simp only [Act.put, List.setIfInBounds_toArray, List.set_cons_zero, List.set_cons_succ])
              ((with_reducible apply V_run); rfl; (intro w M; go_simp; (try go_ints); (try simp only [↓IntWalk.iteOmega]); (try with_reducible rfl)); simp only [Act.put, List.setIfInBounds_toArray, List.set_cons_zero, List.set_cons_succ])
              ((with_reducible apply V_run); rfl; (intro w M; go_simp; (try go_ints); (try simp only [↓IntWalk.iteOmega]); (try with_reducible rfl)); simp only [Act.put, List.setIfInBounds_toArray, List.set_cons_zero, List.set_cons_succ])
              refine V_nil ?_
              intro w4 M
              refine S_seg 15 16 (by kernel_rfl) (by decide) ?_
              simp only [List.take_succ_cons, List.take_zero, List.drop_zero, List.drop_succ_cons, Nat.sub_zero, Nat.reduceSub]
              go_wp2_with ((with_reducible apply W_stB (L1 := []) (b := b10) (o := z) (v := _)); exact (by first | rfl | (congr 3; omega) | (simp; omega)); rfl; exact M; exact hb10x; exact size4; omega; clear M; intro w5 M; simp only [List.cons_append, List.nil_append] at M)
              refine S_done ?_
              replace M := Mem.rb0 M fun j hj => mixS_step f (x := x) (z := z) (j := j)
              go_wp2_with fail
              go_roundw
              case rel => exact ⟨z + 1, by omega, by go_num, M⟩
              case measure => simp [intOf]; omega
            · have e : z = 64 := by omega
              subst e
              replace M := Mem.rb0 M fun j hj => mixS_end f (x := x) hj
              go_wp2_with fail
              go_loopw [78] (fun iv wr => ∃ y : Nat, y ≤ 5 ∧ iv = .int .i64 (y : Int) ∧ Mem w [b] [(b10, RB 281 64 (mixB f x)), (b2, RB 282 320 (colB f 5)), (b, RB t 1600 (thS f x y 0))] wr) (fun iv _ => (5 - intOf iv).toNat)
              case atStart => exact ⟨0, by omega, rfl, M⟩
              case round =>
                clear M
                obtain ⟨y, hy, rfl, M⟩ := hrel
                rcases Nat.lt_or_ge y 5 with hly | hgy
                · go_wp2_with fail
                  go_loopw [87] (fun iv wr => ∃ z : Nat, z ≤ 64 ∧ iv = .int .i64 (z : Int) ∧ Mem w [b] [(b10, RB 281 64 (mixB f x)), (b2, RB 282 320 (colB f 5)), (b, RB t 1600 (thS f x y z))] wr) (fun iv _ => (64 - intOf iv).toNat)
                  case atStart => exact ⟨0, by omega, rfl, M⟩
                  case round =>
                    clear M
                    obtain ⟨z, hz, rfl, M⟩ := hrel
                    rcases Nat.lt_or_ge z 64 with hlz | hgz
                    · go_wp2_with fail
                      refine S_region (by kernel_rfl) ?_
                      refine V_quiet 0 6 (by kernel_rfl) (by decide) M.drew ?_
                      clear M
                      simp only [List.take_succ_cons, List.take_zero, List.drop_zero, List.drop_succ_cons, Nat.sub_zero, Nat.reduceSub]
                      ((with_reducible apply V_run); rfl; (intro w M; go_simp; (try go_ints); (try simp only [↓IntWalk.iteOmega]); (try with_reducible rfl)); simp only [Act.put, List.setIfInBounds_toArray, List.set_cons_zero, List.set_cons_succ])
                      ((with_reducible apply V_run); rfl; (intro w M; go_simp; (try go_ints); (try simp only [↓IntWalk.iteOmega]); (try with_reducible rfl)); simp only [Act.put, List.setIfInBounds_toArray, List.set_cons_zero, List.set_cons_succ])
                      ((with_reducible apply V_run); rfl; (intro w M; go_simp; (try go_ints); (try simp only [↓IntWalk.iteOmega]); (try with_reducible rfl)); simp only [Act.put, List.setIfInBounds_toArray, List.set_cons_zero, List.set_cons_succ])
                      ((with_reducible apply V_run); rfl; (intro w M; exact run_loadB (i := z) M.r0 (by first | rfl | (congr 3; omega) | (simp; omega)) (by omega) Salg.underlying4); simp only [Act.put, List.setIfInBounds_toArray, List.set_cons_zero, List.set_cons_succ])
                      ((with_reducible apply V_run); rfl; (intro w M; go_simp; (try go_ints); (try simp only [↓IntWalk.iteOmega]); (try with_reducible rfl)); simp only [Act.put, List.setIfInBounds_toArray, List.set_cons_zero, List.set_cons_succ])
                      ((with_reducible apply V_run); rfl; (intro w M; go_simp; (try go_ints); (try simp only [↓IntWalk.iteOmega]); (try with_reducible rfl)); simp only [Act.put, List.setIfInBounds_toArray, List.set_cons_zero, List.set_cons_succ])
                      refine V_nil ?_
                      intro w4 M
                      refine S_done ?_
                      go_wp2_with fail
                      refine S_region (by kernel_rfl) ?_
                      refine V_quiet 0 11 (by kernel_rfl) (by decide) M.drew ?_
                      clear M
                      simp only [List.take_succ_cons, List.take_zero, List.drop_zero, List.drop_succ_cons, Nat.sub_zero, Nat.reduceSub]
                      ((with_reducible apply V_run); rfl; (intro w M; go_simp; (try go_ints); (try simp only [↓IntWalk.iteOmega]); (try with_reducible rfl)); simp only [Act.put, List.setIfInBounds_toArray, List.set_cons_zero, List.set_cons_succ])
                      ((with_reducible apply V_run); rfl; (intro w M; go_simp; (try go_ints); (try simp only [↓IntWalk.iteOmega]); (try with_reducible rfl)); simp only [Act.put, List.setIfInBounds_toArray, List.set_cons_zero, List.set_cons_succ])
                      ((with_reducible apply V_run); rfl; (intro w M; go_simp; (try go_ints); (try simp only [↓IntWalk.iteOmega]); (try with_reducible rfl)); simp only [Act.put, List.setIfInBounds_toArray, List.set_cons_zero, List.set_cons_succ])
                      ((with_reducible apply V_run); rfl; (intro w M; go_simp; (try go_ints); (try simp only [↓IntWalk.iteOmega]); (try with_reducible rfl)); simp only [Act.put, List.setIfInBounds_toArray, List.set_cons_zero, List.set_cons_succ])
                      ((with_reducible apply V_run); rfl; (intro w M; go_simp; (try go_ints); (try simp only [↓IntWalk.iteOmega]); (try with_reducible rfl)); simp only [Act.put, List.setIfInBounds_toArray, List.set_cons_zero, List.set_cons_succ])
                      ((with_reducible apply V_run); rfl; (intro w M; go_simp; (try go_ints); (try simp only [↓IntWalk.iteOmega]); (try with_reducible rfl)); simp only [Act.put, List.setIfInBounds_toArray, List.set_cons_zero, List.set_cons_succ])
                      ((with_reducible apply V_run); rfl; (intro w M; exact run_loadB (i := x * 320 + y * 64 + z) M.r2 (by first | rfl | (congr 3; omega) | (simp; omega)) (by omega) Salg.underlying4); simp only [Act.put, List.setIfInBounds_toArray, List.set_cons_zero, List.set_cons_succ])
                      ((with_reducible apply V_run); rfl; (intro w M; go_simp; (try go_ints); (try simp only [↓IntWalk.iteOmega]); (try with_reducible rfl)); simp only [Act.put, List.setIfInBounds_toArray, List.set_cons_zero, List.set_cons_succ])
                      ((with_reducible apply V_run); rfl; (intro w M; go_simp; (try go_ints); (try simp only [↓IntWalk.iteOmega]); (try with_reducible rfl)); simp only [Act.put, List.setIfInBounds_toArray, List.set_cons_zero, List.set_cons_succ])
                      ((with_reducible apply V_run); rfl; (intro w M; go_simp; (try go_ints); (try simp only [↓IntWalk.iteOmega]); (try with_reducible rfl)); simp only [Act.put, List.setIfInBounds_toArray, List.set_cons_zero, List.set_cons_succ])
                      ((with_reducible apply V_run); rfl; (intro w M; go_simp; (try go_ints); (try simp only [↓IntWalk.iteOmega]); (try with_reducible rfl)); simp only [Act.put, List.setIfInBounds_toArray, List.set_cons_zero, List.set_cons_succ])
                      refine V_nil ?_
                      intro w4 M
                      refine S_seg 11 12 (by kernel_rfl) (by decide) ?_
                      simp only [List.take_succ_cons, List.take_zero, List.drop_zero, List.drop_succ_cons, Nat.sub_zero, Nat.reduceSub]
                      go_wp2_with ((with_reducible apply W_stB (L1 := [_, _]) (b := b) (o := x * 320 + y * 64 + z) (v := _)); exact (by first | rfl | (congr 3; omega) | (simp; omega)); rfl; exact M; exact hbx; exact size4; omega; clear M; intro w5 M; simp only [List.cons_append, List.nil_append] at M)
                      refine S_done ?_
                      replace M := Mem.rb2 M fun j hj => thS_step f (x := x) (y := y) (z := z) (j := j) hlt hly hlz
                      go_wp2_with fail
                      go_roundw
                      case rel => exact ⟨z + 1, by omega, by go_num, M⟩
                      case measure => simp [intOf]; omega
                    · have e : z = 64 := by omega
                      subst e
                      replace M := Mem.rb2 M fun j hj => thS_row f (x := x) (y := y) (j := j)
                      go_wp2_with fail
                      go_roundw
                      case rel => exact ⟨y + 1, by omega, by go_num, M⟩
                      case measure => simp [intOf]; omega
                · have e : y = 5 := by omega
                  subst e
                  replace M := Mem.rb2 M fun j hj => thS_col f (x := x) (j := j)
                  replace M := M.tail
                  go_wp2_with fail
                  go_roundw
                  case rel => exact ⟨x + 1, by omega, by go_num, M⟩
                  case measure => simp [intOf]; omega
        · have e : x = 5 := by omega
          subst e
          replace M := Mem.rb1 M fun j hj => thS_end f hj
          go_wp2_with fail
          go_end0
          exact ⟨_, rfl, M.r1, M.kept⟩
end Go.Proofs.YgcsalGreat

/-
  The walk of kmodel.F.
-/
import Derived.Test.YgcsalGreatKc4
set_option linter.unusedSimpArgs false
set_option linter.unusedVariables false
namespace Go.Own
/-- Where a bit of the row stands in the state, and back. -/
def sw (j : Nat) : Nat := j / 64 % 5 * 320 + j / 320 * 64 + j % 64
theorem sw_lt {j : Nat} (h : j < 1600) : sw j < 1600 := by unfold sw; omega
theorem sw_sw {j : Nat} (h : j < 1600) : sw (sw j) = j := by
  unfold sw
  have h1 : j / 320 = j / 64 / 5 := by omega
  have h2 : j = j / 64 * 64 + j % 64 := by omega
  generalize hq : j / 64 = q at *
  generalize hr : j % 64 = r at *
  have hr2 : r < 64 := by omega
  have hq2 : q < 25 := by omega
  rw [h1]
  have e1 : (q % 5 * 320 + q / 5 * 64 + r) / 64 = q % 5 * 5 + q / 5 := by omega
  have e2 : (q % 5 * 320 + q / 5 * 64 + r) / 320 = q % 5 := by omega
  have e3 : (q % 5 * 320 + q / 5 * 64 + r) % 64 = r := by omega
  rw [e1, e2, e3]
  omega
def roundB (k : Nat) (f : Nat → Bool) : Nat → Bool := iotaB (chiB (piB (rhoB (thetaB f)))) (constN k 7)
def stF (g : Nat → Bool) : Nat → Nat → Bool
  | 0 => fun j => g (sw j)
  | k + 1 => roundB k (stF g k)
def keccakB (g : Nat → Bool) (j : Nat) : Bool := stF g 24 (sw j)
def inS (g : Nat → Bool) (i j : Nat) : Bool := if sw j < i then g (sw j) else false
theorem inS_start (g : Nat → Bool) {j : Nat} : false = inS g 0 j := by
  unfold inS
  rw [if_neg (by omega)]
theorem inS_end (g : Nat → Bool) {j : Nat} (h : j < 1600) : inS g 1600 j = stF g 0 j := by
  unfold inS
  rw [if_pos (sw_lt h)]
  rfl
theorem inS_step (g : Nat → Bool) {i j : Nat} (hi : i < 1600) (hj : j < 1600) : upd (inS g i) (i / 64 % 5 * 320 + i / 320 * 64 + i % 64) (g i) j = inS g (i + 1) j := by
  show upd (inS g i) (sw i) (g i) j = _
  unfold upd inS
  by_cases h : j = sw i
  · subst h
    rw [if_pos rfl, sw_sw hi, if_pos (by omega)]
  · have h2 : sw j ≠ i := fun e => h (by rw [← e, sw_sw hj])
    rw [if_neg h]
    by_cases h1 : sw j < i
    · rw [if_pos h1, if_pos (by omega)]
    · rw [if_neg h1, if_neg (by omega)]
def ouS (g h : Nat → Bool) (i j : Nat) : Bool := if j < i then h (sw j) else g j
theorem ouS_start (g h : Nat → Bool) {j : Nat} : g j = ouS g h 0 j := by
  unfold ouS
  rw [if_neg (by omega)]
theorem ouS_end (g h : Nat → Bool) {j : Nat} (hj : j < 1600) : ouS g h 1600 j = h (sw j) := by
  unfold ouS
  rw [if_pos hj]
theorem ouS_step (g h : Nat → Bool) {i j : Nat} : upd (ouS g h i) i (h (i / 64 % 5 * 320 + i / 320 * 64 + i % 64)) j = ouS g h (i + 1) j := by
  show upd (ouS g h i) i (h (sw i)) j = _
  unfold upd ouS
  by_cases h1 : j = i
  · subst h1
    rw [if_pos rfl, if_pos (by omega)]
  · rw [if_neg h1]
    by_cases h2 : j < i
    · rw [if_pos h2, if_pos (by omega)]
    · rw [if_neg h2, if_neg (by omega)]
end Go.Own
namespace Go.Proofs.YgcsalGreat
open Go.RowKit Go.Own

set_option maxHeartbeats 4000000 in
set_option maxRecDepth 100000 in
theorem F_any (b t : Nat) (g : Nat → Bool) (w : World) (hr : w.heap[b]? = some (RB t 1600 g)) : Calls Salg.prog 212 #[.pointer (some ⟨b, 0, none⟩)] w fun e w' => ∃ r, e = .returned r ∧ w'.heap[b]? = some (RB t 1600 (keccakB g)) ∧ Kept [b] w w' := by
  have M := (Mem.start w [b]).add hr (by simp)
  have hbx : b ∈ [b] ∨ w.heap.size ≤ b := Or.inl (by simp)
  have HT := hid (fun b t f w' (h : w'.heap[b]? = some (RB t 1600 f)) => theta_any b t f w' h)
  have HR := hid (fun b t f w' (h : w'.heap[b]? = some (RB t 1600 f)) => rho_any b t f w' h)
  have HP := hid (fun b t f w' (h : w'.heap[b]? = some (RB t 1600 f)) => pi_any b t f w' h)
  have HC := hid (fun b t f w' (h : w'.heap[b]? = some (RB t 1600 f)) => chi_any b t f w' h)
  have HI := hid (fun b t i f w' (h : w'.heap[b]? = some (RB t 1600 f)) (hi : i < 24) => iota_any b t i f w' h hi)
  clear hr
  go_enter Salg.func212, Salg.ntmps212
  go_wp2_with ((with_reducible apply L_allocA (d := 2) M); exact zero284; clear M; intro b2 w1 hb2 M; simp only [Act.put, List.setIfInBounds_toArray, List.set_cons_zero, List.set_cons_succ])
  have hb2x : b2 ∈ [b] ∨ w.heap.size ≤ b2 := Or.inr hb2
  replace M := Mem.rb0 M fun j hj => inS_start g (j := j)
  go_loopw [12] (fun iv wr => ∃ i : Nat, i ≤ 1600 ∧ iv = .int .i64 (i : Int) ∧ Mem w [b] [(b2, RB 284 1600 (inS g i)), (b, RB t 1600 g)] wr) (fun iv _ => (1600 - intOf iv).toNat)
  case atStart => exact ⟨0, by omega, rfl, M⟩
  case round =>
    clear M
    obtain ⟨i, hi, rfl, M⟩ := hrel
    rcases Nat.lt_or_ge i 1600 with hlt | hge
    · go_wp2_with fail
      refine S_region (by kernel_rfl) ?_
      refine V_quiet 0 6 (by kernel_rfl) (by decide) M.drew ?_
      clear M
      simp only [List.take_succ_cons, List.take_zero, List.drop_zero, List.drop_succ_cons, Nat.sub_zero, Nat.reduceSub]
      ((with_reducible apply V_run); rfl; (intro w M; go_simp; (try go_ints); (try simp only [↓IntWalk.iteOmega]); (try with_reducible rfl)); simp only [Act.put, List.setIfInBounds_toArray, List.set_cons_zero, List.set_cons_succ])
      ((with_reducible apply V_run); rfl; (intro w M; go_simp; (try go_ints); (try simp only [↓IntWalk.iteOmega]); (try with_reducible rfl)); simp only [Act.put, List.setIfInBounds_toArray, List.set_cons_zero, List.set_cons_succ])
      ((with_reducible apply V_run); rfl; (intro w M; go_simp; (try go_ints); (try simp only [↓IntWalk.iteOmega]); (try with_reducible rfl)); simp only [Act.put, List.setIfInBounds_toArray, List.set_cons_zero, List.set_cons_succ])
      ((with_reducible apply V_run); rfl; (intro w M; exact run_loadB (i := i) M.r1 (by first | rfl | (congr 3; omega) | (simp; omega)) (by omega) Salg.underlying4); simp only [Act.put, List.setIfInBounds_toArray, List.set_cons_zero, List.set_cons_succ])
      ((with_reducible apply V_run); rfl; (intro w M; go_simp; (try go_ints); (try simp only [↓IntWalk.iteOmega]); (try with_reducible rfl)); simp only [Act.put, List.setIfInBounds_toArray, List.set_cons_zero, List.set_cons_succ])
      ((with_reducible apply V_run); rfl; (intro w M; go_simp; (try go_ints); (try simp only [↓IntWalk.iteOmega]); (try with_reducible rfl)); simp only [Act.put, List.setIfInBounds_toArray, List.set_cons_zero, List.set_cons_succ])
      refine V_nil ?_
      intro w4 M
      refine S_done ?_
      go_wp2_with ((with_reducible apply W_stB (L1 := []) (b := b2) (o := i / 64 % 5 * 320 + i / 320 * 64 + i % 64) (v := g i)); exact (by first | rfl | (congr 3; omega) | (simp; omega)); rfl; exact M; exact hb2x; exact size4; omega; clear M; intro w5 M; simp only [List.cons_append, List.nil_append] at M)
      replace M := Mem.rb0 M fun j hj => inS_step g (i := i) (j := j) hlt hj
      go_wp2_with fail
      go_roundw
      case rel => exact ⟨i + 1, by omega, by go_num, M⟩
      case measure => simp [intOf]; omega
    · have e : i = 1600 := by omega
      have d1 : decide ((i : Int) < 1600) = false := by simp; omega
      replace M := Mem.rb0 M (g := stF g 0) fun j hj => by rw [e]; exact inS_end g hj
      clear e
      go_wp2_with fail
      clear d1
      go_loopw [5] (fun iv wr => ∃ k : Nat, k ≤ 24 ∧ iv = .int .u8 (k : Int) ∧ Mem w [b] [(b2, RB 284 1600 (stF g k)), (b, RB t 1600 g)] wr) (fun iv _ => (24 - intOf iv).toNat)
      case atStart => exact ⟨0, by omega, rfl, M⟩
      case round =>
        clear M
        obtain ⟨k, hk, rfl, M⟩ := hrel
        rcases Nat.lt_or_ge k 24 with hlk | hgk
        · go_wp2_with fail
          refine (HT.out b2 284 _ _ M.r0).mono ?_
          rintro e w3 ⟨r3, rfl, hr3, K3⟩
          replace M := Mem.callPut (L1 := []) M hb2x K3 hr3
          clear hr3 K3
          simp only [List.nil_append] at M
          go_wp2_with fail
          refine (HR.out b2 284 _ _ M.r0).mono ?_
          rintro e w4 ⟨rfl, K4⟩
          replace M := M.call K4
          clear K4
          go_wp2_with (first
            | ((with_reducible apply L_allocA (d := 6) M); exact zero284; clear M; intro b6 w5 hb6 M; simp only [Act.put, List.setIfInBounds_toArray, List.set_cons_zero, List.set_cons_succ])
            | ((with_reducible apply W_storeK (b := b6) (vs := BA 1600 (rhoB (thetaB (stF g k))))); rfl; rfl; exact M.r0; (rw [BA_size]; exact size284); exact (BA_size _ _).trans (BA_size _ _).symm; exact BA_one _ _; intro w6 K hr3; replace M := Mem.callPut (L1 := []) (o' := RB 284 1600 (rhoB (thetaB (stF g k)))) M (Or.inr hb6) K hr3; clear K hr3; simp only [List.cons_append, List.nil_append] at M))
          refine (HP.out b6 284 _ _ M.r0).mono ?_
          rintro e w4 ⟨rfl, K4⟩
          replace M := M.call K4
          clear K4
          go_wp2_with (first
            | ((with_reducible apply L_allocA (d := 7) M); exact zero284; clear M; intro b7 w5 hb7 M; simp only [Act.put, List.setIfInBounds_toArray, List.set_cons_zero, List.set_cons_succ])
            | ((with_reducible apply W_storeK (b := b7) (vs := BA 1600 (piB (rhoB (thetaB (stF g k)))))); rfl; rfl; exact M.r0; (rw [BA_size]; exact size284); exact (BA_size _ _).trans (BA_size _ _).symm; exact BA_one _ _; intro w6 K hr3; replace M := Mem.callPut (L1 := []) (o' := RB 284 1600 (piB (rhoB (thetaB (stF g k))))) M (Or.inr hb7) K hr3; clear K hr3; simp only [List.cons_append, List.nil_append] at M))
          refine (HC.out b7 284 _ _ M.r0).mono ?_
          rintro e w4 ⟨rfl, K4⟩
          replace M := M.call K4
          clear K4
          go_wp2_with ((with_reducible apply W_storeK (b := b2) (vs := BA 1600 (chiB (piB (rhoB (thetaB (stF g k))))))); rfl; rfl; exact M.r2; (rw [BA_size]; exact size284); exact (BA_size _ _).trans (BA_size _ _).symm; exact BA_one _ _; intro w6 K hr3; replace M := Mem.callPut (L1 := [_, _]) (o' := RB 284 1600 (chiB (piB (rhoB (thetaB (stF g k)))))) M hb2x K hr3; clear K hr3; simp only [List.cons_append, List.nil_append] at M)
          refine (HI.out b2 284 k _ _ M.r2 hlk).mono ?_
          rintro e w3 ⟨r4, rfl, hr3, K3⟩
          replace M := Mem.callPut (L1 := [_, _]) M hb2x K3 hr3
          clear hr3 K3
          simp only [List.cons_append, List.nil_append] at M
          replace M := M.tail.tail
          go_wp2_with fail
          go_roundw
          case rel => exact ⟨k + 1, by omega, by go_num, M⟩
          case measure => simp [intOf]; omega
        · have e : k = 24 := by omega
          subst e
          replace M := Mem.rb1 M fun j hj => ouS_start g (stF g 24) (j := j)
          go_wp2_with fail
          go_loopw [40] (fun iv wr => ∃ i : Nat, i ≤ 1600 ∧ iv = .int .i64 (i : Int) ∧ Mem w [b] [(b2, RB 284 1600 (stF g 24)), (b, RB t 1600 (ouS g (stF g 24) i))] wr) (fun iv _ => (1600 - intOf iv).toNat)
          case atStart => exact ⟨0, by omega, rfl, M⟩
          case round =>
            clear M
            obtain ⟨i, hi, rfl, M⟩ := hrel
            rcases Nat.lt_or_ge i 1600 with hlt | hge
            · go_wp2_with fail
              refine S_region (by kernel_rfl) ?_
              refine V_quiet 0 15 (by kernel_rfl) (by decide) M.drew ?_
              clear M
              simp only [List.take_succ_cons, List.take_zero, List.drop_zero, List.drop_succ_cons, Nat.sub_zero, Nat.reduceSub]
              ((with_reducible apply V_run); rfl; (intro w M; go_simp; (try go_ints); (try simp only [↓IntWalk.iteOmega]); (try with_reducible rfl)); simp only [Act.put, List.setIfInBounds_toArray, List.set_cons_zero, List.set_cons_succ])
              ((with_reducible apply V_run); rfl; (intro w M; go_simp; (try go_ints); (try simp only [↓IntWalk.iteOmega]); (try with_reducible rfl)); simp only [Act.put, List.setIfInBounds_toArray, List.set_cons_zero, List.set_cons_succ])
              ((with_reducible apply V_run); rfl; (intro w M; go_simp; (try go_ints); (try simp only [↓IntWalk.iteOmega]); (try with_reducible rfl)); simp only [Act.put, List.setIfInBounds_toArray, List.set_cons_zero, List.set_cons_succ])
              ((with_reducible apply V_run); rfl; (intro w M; go_simp; (try go_ints); (try simp only [↓IntWalk.iteOmega]); (try with_reducible rfl)); simp only [Act.put, List.setIfInBounds_toArray, List.set_cons_zero, List.set_cons_succ])
              ((with_reducible apply V_run); rfl; (intro w M; go_simp; (try go_ints); (try simp only [↓IntWalk.iteOmega]); (try with_reducible rfl)); simp only [Act.put, List.setIfInBounds_toArray, List.set_cons_zero, List.set_cons_succ])
              ((with_reducible apply V_run); rfl; (intro w M; go_simp; (try go_ints); (try simp only [↓IntWalk.iteOmega]); (try with_reducible rfl)); simp only [Act.put, List.setIfInBounds_toArray, List.set_cons_zero, List.set_cons_succ])
              ((with_reducible apply V_run); rfl; (intro w M; go_simp; (try go_ints); (try simp only [↓IntWalk.iteOmega]); (try with_reducible rfl)); simp only [Act.put, List.setIfInBounds_toArray, List.set_cons_zero, List.set_cons_succ])
              ((with_reducible apply V_run); rfl; (intro w M; go_simp; (try go_ints); (try simp only [↓IntWalk.iteOmega]); (try with_reducible rfl)); simp only [Act.put, List.setIfInBounds_toArray, List.set_cons_zero, List.set_cons_succ])
              ((with_reducible apply V_run); rfl; (intro w M; go_simp; (try go_ints); (try simp only [↓IntWalk.iteOmega]); (try with_reducible rfl)); simp only [Act.put, List.setIfInBounds_toArray, List.set_cons_zero, List.set_cons_succ])
              ((with_reducible apply V_run); rfl; (intro w M; go_simp; (try go_ints); (try simp only [↓IntWalk.iteOmega]); (try with_reducible rfl)); simp only [Act.put, List.setIfInBounds_toArray, List.set_cons_zero, List.set_cons_succ])
              ((with_reducible apply V_run); rfl; (intro w M; go_simp; (try go_ints); (try simp only [↓IntWalk.iteOmega]); (try with_reducible rfl)); simp only [Act.put, List.setIfInBounds_toArray, List.set_cons_zero, List.set_cons_succ])
              ((with_reducible apply V_run); rfl; (intro w M; go_simp; (try go_ints); (try simp only [↓IntWalk.iteOmega]); (try with_reducible rfl)); simp only [Act.put, List.setIfInBounds_toArray, List.set_cons_zero, List.set_cons_succ])
              ((with_reducible apply V_run); rfl; (intro w M; exact run_loadB (i := i / 64 % 5 * 320 + i / 320 * 64 + i % 64) M.r0 (by first | rfl | (congr 3; omega) | (simp; omega)) (by omega) Salg.underlying4); simp only [Act.put, List.setIfInBounds_toArray, List.set_cons_zero, List.set_cons_succ])
              ((with_reducible apply V_run); rfl; (intro w M; go_simp; (try go_ints); (try simp only [↓IntWalk.iteOmega]); (try with_reducible rfl)); simp only [Act.put, List.setIfInBounds_toArray, List.set_cons_zero, List.set_cons_succ])
              ((with_reducible apply V_run); rfl; (intro w M; go_simp; (try go_ints); (try simp only [↓IntWalk.iteOmega]); (try with_reducible rfl)); simp only [Act.put, List.setIfInBounds_toArray, List.set_cons_zero, List.set_cons_succ])
              refine V_nil ?_
              intro w4 M
              refine S_seg 15 16 (by kernel_rfl) (by decide) ?_
              simp only [List.take_succ_cons, List.take_zero, List.drop_zero, List.drop_succ_cons, Nat.sub_zero, Nat.reduceSub]
              go_wp2_with ((with_reducible apply W_stB (L1 := [_]) (b := b) (o := i) (v := _)); exact (by first | rfl | (congr 3; omega) | (simp; omega)); rfl; exact M; exact hbx; exact size4; omega; clear M; intro w5 M; simp only [List.cons_append, List.nil_append] at M)
              refine S_done ?_
              replace M := Mem.rb1 M fun j hj => ouS_step g (stF g 24) (i := i) (j := j)
              go_wp2_with fail
              go_roundw
              case rel => exact ⟨i + 1, by omega, by go_num, M⟩
              case measure => simp [intOf]; omega
            · have e : i = 1600 := by omega
              subst e
              replace M := Mem.rb1 M fun j hj => ouS_end g (stF g 24) hj
              go_wp2_with fail
              go_end0
              exact ⟨_, rfl, M.r1, M.kept⟩
end Go.Proofs.YgcsalGreat

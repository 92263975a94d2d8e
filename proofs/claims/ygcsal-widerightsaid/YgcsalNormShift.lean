/-
  law.NormShift: the walks of shiftHolds, NormShift.
-/
import Derived.Test.YgcsalNat3
import Derived.Test.YgcsalDivMidRight
import Derived.Test.YgcsalShift
set_option linter.unusedSimpArgs false
namespace Go.Own
theorem Tight.short {ds : List Nat} (h : Tight ds) {k : Nat} (hv : val ds < 256 ^ k) : ds.length ≤ k := by
  rcases Nat.lt_or_ge k ds.length with hk | hk
  · exfalso
    have h1 := h.ge (by intro h0; rw [h0] at hk; simp at hk)
    have h2 : 256 ^ k ≤ 256 ^ (ds.length - 1) := Nat.pow_le_pow_right (by decide) (by omega)
    omega
  · exact hk
theorem pow_lt_256 {m k : Nat} (h : m < 8 * k) : 2 ^ m < 256 ^ k := by rw [show (256 : Nat) = 2 ^ 8 from rfl, ← Nat.pow_mul]; exact Nat.pow_lt_pow_right (by decide) h
theorem cmpI_self (m : Nat) : cmpI m m = 0 := by simp [cmpI]
theorem NumV.short {w : World} {v : Value} {n : Nat} (h : NumV w v n) {k : Nat} (hn : n < 256 ^ k) : ∃ ds, NatV w v ds ∧ val ds = n ∧ ds.length ≤ k := by
  obtain ⟨ds, h1, h2, h3⟩ := h; exact ⟨ds, h1, h3, h2.short (by omega)⟩
end Go.Own
namespace Go.Proofs.Ygcsal
open Go.RowKit Go.Own
theorem mul_num (v u : Value) (m n : Nat) (w : World) (hv : NumV w v m) (hu : NumV w u n) (hm : m < 256 ^ 200) (hn : n < 256 ^ 200) :
    Calls Salg.prog 26 #[v, u] w fun e w' => ∃ r, e = .returned r ∧ NumV w' r (m * n) ∧ Kept [] w w' := by
  obtain ⟨ds, h1, rfl, h2⟩ := hv.short hm
  obtain ⟨es, h3, rfl, h4⟩ := hu.short hn
  exact mul_any v u ds es w h1 h3 (by omega) (by omega)
theorem divMod_num (v u : Value) (m n : Nat) (w : World) (hv : NumV w v m) (hu : NumV w u n) (hm : m < 256 ^ 200) (hn : n < 256 ^ 200) (h0 : n ≠ 0) :
    Calls Salg.prog 33 #[v, u] w fun e w' => ∃ r s, e = .returned (.tuple #[r, s, .bool true]) ∧ NumV w' r (m / n) ∧ NumV w' s (m % n) ∧ Kept [] w w' := by
  obtain ⟨ds, h1, rfl, h2⟩ := hv.short hm
  obtain ⟨es, h3, rfl, h4⟩ := hu.short hn
  exact divMod_any v u ds es w h1 h3 (by omega) (by omega) h0

set_option maxHeartbeats 1000000 in
set_option maxRecDepth 100000 in
theorem shiftHolds_big (l : List Nat) (n s : Nat) (w : World) (hl : l.length = 9) (hs : 64 ≤ s) :
    Calls Salg.prog 18 #[A64 l, .int .i64 n, .int .u8 s, A64 l, A64 l] w fun e w' => e = .returned (.bool true) ∧ Kept [] w w' := by
  have M := Mem.start w []
  have hs' : decide ((64 : Int) ≤ (s : Nat)) = true := by simp; omega
  go_enter Salg.func18, Salg.ntmps18
  go_wp2_with (first
    | ((with_reducible apply L_box (d := 5) M); rfl; clear M; intro b1 w1 hb1 M; simp only [Act.put, List.setIfInBounds_toArray, List.set_cons_zero, List.set_cons_succ])
    | ((with_reducible apply L_box (d := 8) M); rfl; clear M; intro b2 w1 hb2 M; simp only [Act.put, List.setIfInBounds_toArray, List.set_cons_zero, List.set_cons_succ])
    | ((with_reducible apply L_box (d := 9) M); rfl; clear M; intro b3 w1 hb3 M; simp only [Act.put, List.setIfInBounds_toArray, List.set_cons_zero, List.set_cons_succ])
    | ((with_reducible apply W_loadAll); rfl; (first | with_reducible exact M.r0 | with_reducible exact M.r1 | with_reducible exact M.r2 | with_reducible exact M.r3 | with_reducible exact M.r4 | with_reducible exact M.r5 | with_reducible exact M.r6 | assumption | exact M.kept.row (by assumption) (by simp)); exact Salg.underlying31; rfl; (first | with_reducible exact size31 | (rw [size31]; simp [hl])); simp only [Act.put, List.setIfInBounds_toArray, List.set_cons_zero, List.set_cons_succ])
    | ((with_reducible apply W_loadAllG); rfl; rfl; (first | with_reducible exact M.r0 | with_reducible exact M.r1 | with_reducible exact M.r2 | with_reducible exact M.r3 | with_reducible exact M.r4 | with_reducible exact M.r5 | with_reducible exact M.r6 | assumption | exact M.kept.row (by assumption) (by simp)); exact Salg.underlying31; rfl; (first | with_reducible exact size31 | (rw [size31]; simp [hl])); simp only [Act.put, List.setIfInBounds_toArray, List.set_cons_zero, List.set_cons_succ])
    | ((with_reducible apply W_eql64); rfl; rfl; exact Salg.underlying31; exact Salg.underlying23; exact size23; exact guard31; exact hl; exact hl; simp only [decide_true]; simp only [Act.put, List.setIfInBounds_toArray, List.set_cons_zero, List.set_cons_succ])
    | ((with_reducible apply L_runG); rfl; exact run_eql64 rfl rfl Salg.underlying31 Salg.underlying23 size23 guard31 hl hl; simp only [decide_true]; simp only [Act.put, List.setIfInBounds_toArray, List.set_cons_zero, List.set_cons_succ]))
  go_ret
  exact ⟨by simp, M.kept⟩

set_option maxHeartbeats 2000000 in
set_option maxRecDepth 100000 in
theorem shiftHolds_any (l up dn : List Nat) (n s : Nat) (w : World) (hl : l.length = 9) (hu : up.length = 9) (hd : dn.length = 9) (hL : Limbs l) (hLu : Limbs up) (hLd : Limbs dn) (hn : n ≤ 9) (hs : s < 64)
    (hud : up.drop n = l.drop n) (hdd : dn.drop n = l.drop n) (huv : lval (up.take n) = lval (l.take n) * 2 ^ s % 18446744073709551616 ^ n) (hdv : lval (dn.take n) = lval (l.take n) / 2 ^ s) :
    Calls Salg.prog 18 #[A64 l, .int .i64 n, .int .u8 s, A64 up, A64 dn] w fun e w' => e = .returned (.bool true) ∧ Kept [] w w' := by
  have M := Mem.start w []
  have hs' : decide ((64 : Int) ≤ (s : Nat)) = false := by simp; omega
  have HUD := hid hud
  have HDD := hid hdd
  have HUV' : Hid (lval (up.take n) = lval (l.take n) * 2 ^ s % 2 ^ (64 * n)) := by rw [pow64] at huv; exact huv
  have HDV := hid hdv
  have HL := hid hL
  have HLU := hid hLu
  have HLD := hid hLd
  clear hud hdd huv hdv hL hLu hLd
  go_enter Salg.func18, Salg.ntmps18
  go_wp2_with (first
    | ((with_reducible apply L_box (d := 5) M); rfl; clear M; intro b1 w1 hb1 M; simp only [Act.put, List.setIfInBounds_toArray, List.set_cons_zero, List.set_cons_succ])
    | ((with_reducible apply L_box (d := 8) M); rfl; clear M; intro b2 w1 hb2 M; simp only [Act.put, List.setIfInBounds_toArray, List.set_cons_zero, List.set_cons_succ])
    | ((with_reducible apply L_box (d := 9) M); rfl; clear M; intro b3 w1 hb3 M; simp only [Act.put, List.setIfInBounds_toArray, List.set_cons_zero, List.set_cons_succ]))
  go_loopw [11] (fun iv wr => ∃ i : Nat, n ≤ i ∧ i ≤ 9 ∧ iv = .int .i64 i ∧ Mem w [] [(b3, R64 31 dn), (b2, R64 31 up), (b1, R64 31 l)] wr) (fun iv _ => 9 - (intOf iv).toNat)
  case atStart => exact ⟨n, by omega, by omega, rfl, M⟩
  case round =>
    clear M
    obtain ⟨i, hni, hi, rfl, M⟩ := hrel
    by_cases hi9 : i < 9
    · have hgl : l[i]? = some l[i] := List.getElem?_eq_getElem (by omega)
      have hgu : up[i]? = some l[i] := by
        have := congrArg (·[i - n]?) HUD.out
        simp only [List.getElem?_drop, show n + (i - n) = i from by omega] at this
        rw [this, hgl]
      have hgd : dn[i]? = some l[i] := by
        have := congrArg (·[i - n]?) HDD.out
        simp only [List.getElem?_drop, show n + (i - n) = i from by omega] at this
        rw [this, hgl]
      generalize l[i] = x at *
      go_wp2_with fail
      refine S_region (by kernel_rfl) ?_
      refine S_quiet 0 16 (by kernel_rfl) (by decide) M.drew ?_
      clear M
      simp only [List.take_succ_cons, List.take_zero, List.drop_zero, List.drop_succ_cons, Nat.sub_zero, Nat.reduceSub]
      ((with_reducible apply Q_run); rfl; (intro w M; go_simp; (try go_ints); (try simp only [↓IntWalk.iteOmega]); (try with_reducible rfl)); simp only [Act.put, List.setIfInBounds_toArray, List.set_cons_zero, List.set_cons_succ])
      ((with_reducible apply Q_run); rfl; (intro w M; go_simp; (try go_ints); (try simp only [↓IntWalk.iteOmega]); (try with_reducible rfl)); simp only [Act.put, List.setIfInBounds_toArray, List.set_cons_zero, List.set_cons_succ])
      ((with_reducible apply Q_run); rfl; (intro w M; exact run_loadCell (by (first | with_reducible exact M.r0 | with_reducible exact M.r1 | with_reducible exact M.r2 | with_reducible exact M.r3 | with_reducible exact M.r4 | with_reducible exact M.r5 | with_reducible exact M.r6 | assumption | exact M.kept.row (by assumption) (by simp))) rfl (by (first | exact get_map (by assumption) | exact get_map rfl | rfl)) Salg.underlying23 rfl); simp only [Act.put, List.setIfInBounds_toArray, List.set_cons_zero, List.set_cons_succ])
      ((with_reducible apply Q_run); rfl; (intro w M; go_simp; (try go_ints); (try simp only [↓IntWalk.iteOmega]); (try with_reducible rfl)); simp only [Act.put, List.setIfInBounds_toArray, List.set_cons_zero, List.set_cons_succ])
      ((with_reducible apply Q_run); rfl; (intro w M; go_simp; (try go_ints); (try simp only [↓IntWalk.iteOmega]); (try with_reducible rfl)); simp only [Act.put, List.setIfInBounds_toArray, List.set_cons_zero, List.set_cons_succ])
      ((with_reducible apply Q_run); rfl; (intro w M; exact run_loadCell (by (first | with_reducible exact M.r0 | with_reducible exact M.r1 | with_reducible exact M.r2 | with_reducible exact M.r3 | with_reducible exact M.r4 | with_reducible exact M.r5 | with_reducible exact M.r6 | assumption | exact M.kept.row (by assumption) (by simp))) rfl (by (first | exact get_map (by assumption) | exact get_map rfl | rfl)) Salg.underlying23 rfl); simp only [Act.put, List.setIfInBounds_toArray, List.set_cons_zero, List.set_cons_succ])
      ((with_reducible apply Q_run); rfl; (intro w M; go_simp; (try go_ints); (try simp only [↓IntWalk.iteOmega]); (try with_reducible rfl)); simp only [Act.put, List.setIfInBounds_toArray, List.set_cons_zero, List.set_cons_succ])
      ((with_reducible apply Q_run); rfl; (intro w M; go_simp; (try go_ints); (try simp only [↓IntWalk.iteOmega]); (try with_reducible rfl)); simp only [Act.put, List.setIfInBounds_toArray, List.set_cons_zero, List.set_cons_succ])
      ((with_reducible apply Q_run); rfl; (intro w M; go_simp; (try go_ints); (try simp only [↓IntWalk.iteOmega]); (try with_reducible rfl)); simp only [Act.put, List.setIfInBounds_toArray, List.set_cons_zero, List.set_cons_succ])
      ((with_reducible apply Q_run); rfl; (intro w M; go_simp; (try go_ints); (try simp only [↓IntWalk.iteOmega]); (try with_reducible rfl)); simp only [Act.put, List.setIfInBounds_toArray, List.set_cons_zero, List.set_cons_succ])
      ((with_reducible apply Q_run); rfl; (intro w M; exact run_loadCell (by (first | with_reducible exact M.r0 | with_reducible exact M.r1 | with_reducible exact M.r2 | with_reducible exact M.r3 | with_reducible exact M.r4 | with_reducible exact M.r5 | with_reducible exact M.r6 | assumption | exact M.kept.row (by assumption) (by simp))) rfl (by (first | exact get_map (by assumption) | exact get_map rfl | rfl)) Salg.underlying23 rfl); simp only [Act.put, List.setIfInBounds_toArray, List.set_cons_zero, List.set_cons_succ])
      ((with_reducible apply Q_run); rfl; (intro w M; go_simp; (try go_ints); (try simp only [↓IntWalk.iteOmega]); (try with_reducible rfl)); simp only [Act.put, List.setIfInBounds_toArray, List.set_cons_zero, List.set_cons_succ])
      ((with_reducible apply Q_run); rfl; (intro w M; go_simp; (try go_ints); (try simp only [↓IntWalk.iteOmega]); (try with_reducible rfl)); simp only [Act.put, List.setIfInBounds_toArray, List.set_cons_zero, List.set_cons_succ])
      ((with_reducible apply Q_run); rfl; (intro w M; exact run_loadCell (by (first | with_reducible exact M.r0 | with_reducible exact M.r1 | with_reducible exact M.r2 | with_reducible exact M.r3 | with_reducible exact M.r4 | with_reducible exact M.r5 | with_reducible exact M.r6 | assumption | exact M.kept.row (by assumption) (by simp))) rfl (by (first | exact get_map (by assumption) | exact get_map rfl | rfl)) Salg.underlying23 rfl); simp only [Act.put, List.setIfInBounds_toArray, List.set_cons_zero, List.set_cons_succ])
      ((with_reducible apply Q_run); rfl; (intro w M; go_simp; (try go_ints); (try simp only [↓IntWalk.iteOmega]); (try with_reducible rfl)); simp only [Act.put, List.setIfInBounds_toArray, List.set_cons_zero, List.set_cons_succ])
      ((with_reducible apply Q_run); rfl; (intro w M; go_simp; (try go_ints); (try simp only [↓IntWalk.iteOmega]); (try with_reducible rfl)); simp only [Act.put, List.setIfInBounds_toArray, List.set_cons_zero, List.set_cons_succ])
      refine Q_nil ?_
      intro w4 M
      refine S_done ?_
      go_wp2_with fail
      go_roundw
      case rel => exact ⟨i + 1, by omega, by omega, by go_num, M⟩
      case measure => simp [intOf]; omega
    · have hi' : i = 9 := by omega
      subst hi'
      have hbx : lval (l.take n) < 256 ^ 72 := by
        have h1 := lval_lt (HL.out.take n)
        rw [List.length_take, Nat.min_eq_left (by omega)] at h1
        exact Nat.lt_of_lt_of_le h1 (Nat.pow_le_pow_right (n := 18446744073709551616) (j := 9) (by decide) hn)
      have hbs : 2 ^ s < 256 ^ 8 := by
        exact Nat.pow_lt_pow_right (a := 2) (n := 64) (by decide) hs
      have hbn : 2 ^ (64 * n) < 256 ^ 80 := pow_lt_256 (by omega)
      have hbp : lval (l.take n) * 2 ^ s < 256 ^ 80 := by
        rw [show (80 : Nat) = 72 + 8 from rfl, Nat.pow_add]; exact Nat.mul_lt_mul'' hbx hbs
      have HB1 : Hid (lval (l.take n) < 256 ^ 200) := Nat.lt_trans hbx (Nat.pow_lt_pow_right (by decide) (by decide))
      have HB2 : Hid (2 ^ s < 256 ^ 200) := Nat.lt_trans hbs (Nat.pow_lt_pow_right (by decide) (by decide))
      have HB3 : Hid (2 ^ (64 * n) < 256 ^ 200) := Nat.lt_trans hbn (Nat.pow_lt_pow_right (by decide) (by decide))
      have HB4 : Hid (lval (l.take n) * 2 ^ s < 256 ^ 200) := Nat.lt_trans hbp (Nat.pow_lt_pow_right (by decide) (by decide))
      clear hbx hbs hbn hbp
      go_wp2_with ((with_reducible apply W_sliceArr (l := 0) (h := n) (m := 9)); rfl; exact Salg.underlying31; exact size23; (first | exact Or.inl ⟨rfl, rfl⟩ | exact Or.inr ⟨_, _, _, rfl, rfl, by omega⟩); (first | exact Or.inl ⟨rfl, rfl⟩ | exact Or.inr ⟨_, _, _, rfl, rfl, by omega⟩); (first | exact Or.inl ⟨rfl, rfl⟩ | exact Or.inr ⟨_, _, _, rfl, rfl, by omega⟩); (first | exact Or.inl rfl | exact Or.inr rfl); omega; omega; omega; omega; (try simp only [Nat.zero_add, Nat.sub_zero]); simp only [Act.put, List.setIfInBounds_toArray, List.set_cons_zero, List.set_cons_succ])
      refine (limbsNat_any _ _ _ (LimbV.row M.r2 HL.out 0 n 9 (by omega) (by omega))).mono ?_
      rintro e w3 ⟨X, rfl, hX, K⟩
      have HX := hid hX
      replace M := M.call K
      clear hX K
      rw [List.drop_zero] at HX
      generalize lval (l.take n) = x at *
      go_wp2_with fail
      refine (pow2_any s (by omega) _).mono ?_
      rintro e w4 ⟨P, rfl, hP, K⟩
      have HX1 := hid (HX.out.kept K)
      have HP := hid hP
      replace M := M.call K
      clear hP K HX
      go_wp2_with fail
      refine (mul_num _ _ _ _ _ HX1.out HP.out HB1.out HB2.out).mono ?_
      rintro e w5 ⟨XP, rfl, hXP, K⟩
      have HX2 := hid (HX1.out.kept K)
      have HP2 := hid (HP.out.kept K)
      have HXP := hid hXP
      replace M := M.call K
      clear hXP K HX1 HP
      go_wp2_with fail
      refine (pow2_int _ (by omega) (by omega) _).mono ?_
      rintro e w6 ⟨N, rfl, hN, K⟩
      have HN : Hid (NumV w6 N (2 ^ (64 * n))) := by
        have : ((64 : Int) * (n : Int)).toNat = 64 * n := by omega
        rw [this] at hN; exact hN
      have HX3 := hid (HX2.out.kept K)
      have HP3 := hid (HP2.out.kept K)
      have HXP2 := hid (HXP.out.kept K)
      replace M := M.call K
      clear hN K HX2 HP2 HXP
      go_wp2_with fail
      refine (divMod_num _ _ _ _ _ HXP2.out HN.out HB4.out HB3.out (Nat.ne_of_gt (Nat.pow_pos (by decide)))).mono ?_
      rintro e w7 ⟨Q1, R1, rfl, hQ1, hR1, K⟩
      have HR1 := hid hR1
      have HX4 := hid (HX3.out.kept K)
      have HP4 := hid (HP3.out.kept K)
      replace M := M.call K
      clear hQ1 hR1 K HX3 HP3 HXP2 HN
      rw [← HUV'.out] at HR1
      go_wp2_with fail
      refine (divMod_num _ _ _ _ _ HX4.out HP4.out HB1.out HB2.out (Nat.ne_of_gt (Nat.pow_pos (by decide)))).mono ?_
      rintro e w8 ⟨Q2, R2, rfl, hQ2, hR2, K⟩
      have HQ2 := hid hQ2
      have HR1' := hid (HR1.out.kept K)
      replace M := M.call K
      clear hQ2 hR2 K HX4 HP4 HR1
      rw [← HDV.out] at HQ2
      go_wp2_with ((with_reducible apply W_sliceArr (l := 0) (h := n) (m := 9)); rfl; exact Salg.underlying31; exact size23; (first | exact Or.inl ⟨rfl, rfl⟩ | exact Or.inr ⟨_, _, _, rfl, rfl, by omega⟩); (first | exact Or.inl ⟨rfl, rfl⟩ | exact Or.inr ⟨_, _, _, rfl, rfl, by omega⟩); (first | exact Or.inl ⟨rfl, rfl⟩ | exact Or.inr ⟨_, _, _, rfl, rfl, by omega⟩); (first | exact Or.inl rfl | exact Or.inr rfl); omega; omega; omega; omega; (try simp only [Nat.zero_add, Nat.sub_zero]); simp only [Act.put, List.setIfInBounds_toArray, List.set_cons_zero, List.set_cons_succ])
      refine (limbsNat_any _ _ _ (LimbV.row M.r1 HLU.out 0 n 9 (by omega) (by omega))).mono ?_
      rintro e w9 ⟨U, rfl, hU, K⟩
      have HU := hid hU
      have HQ3 := hid (HQ2.out.kept K)
      have HR2 := hid (HR1'.out.kept K)
      replace M := M.call K
      clear hU K HQ2 HR1'
      rw [List.drop_zero] at HU
      go_wp2_with fail
      refine (cmp_num _ _ _ _ _ HU.out HR2.out).mono ?_
      rintro e w10 ⟨rfl, K⟩
      have HQ4 := hid (HQ3.out.kept K)
      replace M := M.call K
      clear K HQ3 HR2 HU
      rw [cmpI_self]
      go_wp2_with (first
        | ((with_reducible apply L_runG); rfl; exact run_sliceArr (l := 0) (h := n) (m := 9) rfl Salg.underlying31 size23 (by (first | exact Or.inl ⟨rfl, rfl⟩ | exact Or.inr ⟨_, _, _, rfl, rfl, by omega⟩)) (by (first | exact Or.inl ⟨rfl, rfl⟩ | exact Or.inr ⟨_, _, _, rfl, rfl, by omega⟩)) (by (first | exact Or.inl ⟨rfl, rfl⟩ | exact Or.inr ⟨_, _, _, rfl, rfl, by omega⟩)) (by first | exact Or.inl rfl | exact Or.inr rfl) (by omega) (by omega) (by omega) (by omega); (try simp only [Nat.zero_add, Nat.sub_zero]); simp only [Act.put, List.setIfInBounds_toArray, List.set_cons_zero, List.set_cons_succ])
        | ((with_reducible apply W_sliceArr (l := 0) (h := n) (m := 9)); rfl; exact Salg.underlying31; exact size23; (first | exact Or.inl ⟨rfl, rfl⟩ | exact Or.inr ⟨_, _, _, rfl, rfl, by omega⟩); (first | exact Or.inl ⟨rfl, rfl⟩ | exact Or.inr ⟨_, _, _, rfl, rfl, by omega⟩); (first | exact Or.inl ⟨rfl, rfl⟩ | exact Or.inr ⟨_, _, _, rfl, rfl, by omega⟩); (first | exact Or.inl rfl | exact Or.inr rfl); omega; omega; omega; omega; (try simp only [Nat.zero_add, Nat.sub_zero]); simp only [Act.put, List.setIfInBounds_toArray, List.set_cons_zero, List.set_cons_succ]))
      refine (limbsNat_any _ _ _ (LimbV.row M.r0 HLD.out 0 n 9 (by omega) (by omega))).mono ?_
      rintro e w11 ⟨V, rfl, hV, K⟩
      have HV := hid hV
      have HQ5 := hid (HQ4.out.kept K)
      replace M := M.call K
      clear hV K HQ4
      rw [List.drop_zero] at HV
      go_wp2_with fail
      refine (cmp_num _ _ _ _ _ HV.out HQ5.out).mono ?_
      rintro e w12 ⟨rfl, K⟩
      replace M := M.call K
      clear K HV HQ5
      rw [cmpI_self]
      go_wp2_with fail
      go_ret
      exact ⟨by simp, M.kept⟩

set_option maxHeartbeats 2000000 in
set_option maxRecDepth 100000 in
theorem normShift_any (bs : List Nat) (k s : Nat) (w : World) (hb : bs.length = 72) (hsb : Small bs) (hk : k < 256) (hs : s < 256) :
    Calls Salg.prog 5 #[A8 bs, .int .u8 k, .int .u8 s] w fun e w' => e = .returned (.bool true) ∧ Kept [] w w' := by
  have M := Mem.start w []
  have hl := lo9_length bs 72
  have HL := hid (lo9_limbs bs hsb 72)
  have HLO := hid (fun w => limbsOf_any bs w hb hsb)
  generalize lo9 bs 72 = l at *
  have hk9 : k % 10 ≤ 9 := by omega
  go_enter Salg.func5, Salg.ntmps5
  go_wp2_with (first
      | ((with_reducible apply L_box (d := 3) M); rfl; clear M; intro b1 w1 hb1 M; simp only [Act.put, List.setIfInBounds_toArray, List.set_cons_zero, List.set_cons_succ])
      | ((with_reducible apply W_loadAll); rfl; (first | with_reducible exact M.r0 | with_reducible exact M.r1 | with_reducible exact M.r2 | with_reducible exact M.r3 | with_reducible exact M.r4 | with_reducible exact M.r5 | with_reducible exact M.r6 | assumption | exact M.kept.row (by assumption) (by simp)); exact Salg.underlying30; rfl; (first | with_reducible exact size30 | (rw [size30]; simp [hb])); simp only [Act.put, List.setIfInBounds_toArray, List.set_cons_zero, List.set_cons_succ])
      | ((with_reducible apply L_allocA (d := 8) M); exact zero31; clear M; intro b2 w1 hb2 M; simp only [Act.put, List.setIfInBounds_toArray, List.set_cons_zero, List.set_cons_succ])
      | ((with_reducible apply L_allocA (d := 9) M); exact zero31; clear M; intro b3 w1 hb3 M; simp only [Act.put, List.setIfInBounds_toArray, List.set_cons_zero, List.set_cons_succ])
      | (go_at_call 13; refine (HLO.out _).mono ?_; rintro e w3 ⟨rfl, K⟩; replace M := M.call K; clear K)
      | ((with_reducible apply W_storeAll0); rfl; rfl; exact M; exact Or.inr (by assumption); exact size31; (simp [hl]); exact one64 _; clear M; intro w2 M)
      | ((with_reducible apply W_sliceArr (l := 0) (h := k % 10) (m := k % 10)); rfl; exact Salg.underlying31; exact size23; (first | exact Or.inl ⟨rfl, rfl⟩ | exact Or.inr ⟨_, _, _, rfl, rfl, by omega⟩); (first | exact Or.inl ⟨rfl, rfl⟩ | exact Or.inr ⟨_, _, _, rfl, rfl, by omega⟩); (first | exact Or.inl ⟨rfl, rfl⟩ | exact Or.inr ⟨_, _, _, rfl, rfl, by omega⟩); (first | exact Or.inl rfl | exact Or.inr rfl); omega; omega; omega; omega; (try simp only [Nat.zero_add, Nat.sub_zero]); simp only [Act.put, List.setIfInBounds_toArray, List.set_cons_zero, List.set_cons_succ]))
  by_cases hs64 : s < 64
  · refine (shiftUp_any b2 31 (k % 10) s l w2 M.r1 HL.out (by omega) (by omega) hs64).mono ?_
    rintro e w5 ⟨v, up, rfl, hul, hup, hud, huv, K, hrow⟩
    have HUP := hid hup
    have HUD := hid hud
    have HUV := hid huv
    replace M := Mem.callPut (L1 := [(b3, R64 31 l)]) M (Or.inr hb2) K hrow
    rw [List.singleton_append] at M
    clear K hrow hup hud huv
    have hul' : up.length = 9 := by omega
    go_wp2_with ((with_reducible apply W_sliceArr (l := 0) (h := k % 10) (m := k % 10)); rfl; exact Salg.underlying31; exact size23; (first | exact Or.inl ⟨rfl, rfl⟩ | exact Or.inr ⟨_, _, _, rfl, rfl, by omega⟩); (first | exact Or.inl ⟨rfl, rfl⟩ | exact Or.inr ⟨_, _, _, rfl, rfl, by omega⟩); (first | exact Or.inl ⟨rfl, rfl⟩ | exact Or.inr ⟨_, _, _, rfl, rfl, by omega⟩); (first | exact Or.inl rfl | exact Or.inr rfl); omega; omega; omega; omega; (try simp only [Nat.zero_add, Nat.sub_zero]); simp only [Act.put, List.setIfInBounds_toArray, List.set_cons_zero, List.set_cons_succ])
    refine (shiftDown_any b3 31 (k % 10) s l w5 M.r0 HL.out (by omega) (by omega) hs64).mono ?_
    rintro e w6 ⟨v, dn, rfl, hdl, hdn, hdd, hdv, K, hrow⟩
    have HDN := hid hdn
    have HDD := hid hdd
    have HDV := hid hdv
    replace M := Mem.callPut (L1 := []) M (Or.inr hb3) K hrow
    rw [List.nil_append] at M
    clear K hrow hdn hdd hdv
    have hdl' : dn.length = 9 := by omega
    go_wp2_with fail
    refine S_region (by kernel_rfl) ?_
    refine S_quiet 0 8 (by kernel_rfl) (by decide) M.drew ?_
    clear M
    simp only [List.take_succ_cons, List.take_zero, List.drop_zero, List.drop_succ_cons, Nat.sub_zero, Nat.reduceSub]
    ((with_reducible apply Q_run); rfl; (intro w M; exact run_loadAll (by (first | with_reducible exact M.r0 | with_reducible exact M.r1 | with_reducible exact M.r2 | with_reducible exact M.r3 | with_reducible exact M.r4 | with_reducible exact M.r5 | with_reducible exact M.r6 | assumption | exact M.kept.row (by assumption) (by simp))) rfl Salg.underlying30 rfl (by first | with_reducible exact size30 | (rw [size30]; simp [hb]))); simp only [Act.put, List.setIfInBounds_toArray, List.set_cons_zero, List.set_cons_succ])
    refine Q_call rfl Salg.func13 (by kernel_rfl) (by kernel_rfl) (args := [A8 bs]) rfl (fun w M => HLO.out w) ?_
    simp only [Act.put, List.setIfInBounds_toArray, List.set_cons_zero, List.set_cons_succ]
    ((with_reducible apply Q_run); rfl; (intro w M; go_simp; (try go_ints); (try simp only [↓IntWalk.iteOmega]); (try with_reducible rfl)); simp only [Act.put, List.setIfInBounds_toArray, List.set_cons_zero, List.set_cons_succ])
    ((with_reducible apply Q_run); rfl; (intro w M; go_simp; (try go_ints); (try simp only [↓IntWalk.iteOmega]); (try with_reducible rfl)); simp only [Act.put, List.setIfInBounds_toArray, List.set_cons_zero, List.set_cons_succ])
    ((with_reducible apply Q_run); rfl; (intro w M; exact run_loadAll (by (first | with_reducible exact M.r0 | with_reducible exact M.r1 | with_reducible exact M.r2 | with_reducible exact M.r3 | with_reducible exact M.r4 | with_reducible exact M.r5 | with_reducible exact M.r6 | assumption | exact M.kept.row (by assumption) (by simp))) rfl Salg.underlying31 rfl (by first | with_reducible exact size31 | (rw [size31]; simp [hul']))); simp only [Act.put, List.setIfInBounds_toArray, List.set_cons_zero, List.set_cons_succ])
    ((with_reducible apply Q_run); rfl; (intro w M; exact run_loadAll (by (first | with_reducible exact M.r0 | with_reducible exact M.r1 | with_reducible exact M.r2 | with_reducible exact M.r3 | with_reducible exact M.r4 | with_reducible exact M.r5 | with_reducible exact M.r6 | assumption | exact M.kept.row (by assumption) (by simp))) rfl Salg.underlying31 rfl (by first | with_reducible exact size31 | (rw [size31]; simp [hdl']))); simp only [Act.put, List.setIfInBounds_toArray, List.set_cons_zero, List.set_cons_succ])
    refine Q_call rfl Salg.func18 (by kernel_rfl) (by kernel_rfl) (args := [A64 l, .int .i64 (k % 10), .int .u8 s, A64 up, A64 dn]) rfl (fun w M => shiftHolds_any l up dn (k % 10) s w hl hul' hdl' HL.out HUP.out HDN.out hk9 hs64 HUD.out HDD.out HUV.out HDV.out) ?_
    simp only [Act.put, List.setIfInBounds_toArray, List.set_cons_zero, List.set_cons_succ]
    ((with_reducible apply Q_run); rfl; (intro w M; go_simp; (try go_ints); (try simp only [↓IntWalk.iteOmega]); (try with_reducible rfl)); simp only [Act.put, List.setIfInBounds_toArray, List.set_cons_zero, List.set_cons_succ])
    refine Q_nil ?_
    intro w4 M
    refine S_done ?_
    go_wp2_with fail
    go_ret
    exact ⟨rfl, M.kept⟩
  · refine (shiftUp_big _ s w2 (by omega)).mono ?_
    rintro e w5 ⟨v, rfl, rfl⟩
    go_wp2_with ((with_reducible apply W_sliceArr (l := 0) (h := k % 10) (m := k % 10)); rfl; exact Salg.underlying31; exact size23; (first | exact Or.inl ⟨rfl, rfl⟩ | exact Or.inr ⟨_, _, _, rfl, rfl, by omega⟩); (first | exact Or.inl ⟨rfl, rfl⟩ | exact Or.inr ⟨_, _, _, rfl, rfl, by omega⟩); (first | exact Or.inl ⟨rfl, rfl⟩ | exact Or.inr ⟨_, _, _, rfl, rfl, by omega⟩); (first | exact Or.inl rfl | exact Or.inr rfl); omega; omega; omega; omega; (try simp only [Nat.zero_add, Nat.sub_zero]); simp only [Act.put, List.setIfInBounds_toArray, List.set_cons_zero, List.set_cons_succ])
    refine (shiftDown_big _ s _ (by omega)).mono ?_
    rintro e w6 ⟨v, rfl, rfl⟩
    go_wp2_with fail
    refine S_region (by kernel_rfl) ?_
    refine S_quiet 0 8 (by kernel_rfl) (by decide) M.drew ?_
    clear M
    simp only [List.take_succ_cons, List.take_zero, List.drop_zero, List.drop_succ_cons, Nat.sub_zero, Nat.reduceSub]
    ((with_reducible apply Q_run); rfl; (intro w M; exact run_loadAll (by (first | with_reducible exact M.r0 | with_reducible exact M.r1 | with_reducible exact M.r2 | with_reducible exact M.r3 | with_reducible exact M.r4 | with_reducible exact M.r5 | with_reducible exact M.r6 | assumption | exact M.kept.row (by assumption) (by simp))) rfl Salg.underlying30 rfl (by first | with_reducible exact size30 | (rw [size30]; simp [hb]))); simp only [Act.put, List.setIfInBounds_toArray, List.set_cons_zero, List.set_cons_succ])
    refine Q_call rfl Salg.func13 (by kernel_rfl) (by kernel_rfl) (args := [A8 bs]) rfl (fun w M => HLO.out w) ?_
    simp only [Act.put, List.setIfInBounds_toArray, List.set_cons_zero, List.set_cons_succ]
    ((with_reducible apply Q_run); rfl; (intro w M; go_simp; (try go_ints); (try simp only [↓IntWalk.iteOmega]); (try with_reducible rfl)); simp only [Act.put, List.setIfInBounds_toArray, List.set_cons_zero, List.set_cons_succ])
    ((with_reducible apply Q_run); rfl; (intro w M; go_simp; (try go_ints); (try simp only [↓IntWalk.iteOmega]); (try with_reducible rfl)); simp only [Act.put, List.setIfInBounds_toArray, List.set_cons_zero, List.set_cons_succ])
    ((with_reducible apply Q_run); rfl; (intro w M; exact run_loadAll (by (first | with_reducible exact M.r0 | with_reducible exact M.r1 | with_reducible exact M.r2 | with_reducible exact M.r3 | with_reducible exact M.r4 | with_reducible exact M.r5 | with_reducible exact M.r6 | assumption | exact M.kept.row (by assumption) (by simp))) rfl Salg.underlying31 rfl (by first | with_reducible exact size31 | (rw [size31]; simp [hl]))); simp only [Act.put, List.setIfInBounds_toArray, List.set_cons_zero, List.set_cons_succ])
    ((with_reducible apply Q_run); rfl; (intro w M; exact run_loadAll (by (first | with_reducible exact M.r0 | with_reducible exact M.r1 | with_reducible exact M.r2 | with_reducible exact M.r3 | with_reducible exact M.r4 | with_reducible exact M.r5 | with_reducible exact M.r6 | assumption | exact M.kept.row (by assumption) (by simp))) rfl Salg.underlying31 rfl (by first | with_reducible exact size31 | (rw [size31]; simp [hl]))); simp only [Act.put, List.setIfInBounds_toArray, List.set_cons_zero, List.set_cons_succ])
    refine Q_call rfl Salg.func18 (by kernel_rfl) (by kernel_rfl) (args := [A64 l, .int .i64 (k % 10), .int .u8 s, A64 l, A64 l]) rfl (fun w M => shiftHolds_big l (k % 10) s w hl (by omega)) ?_
    simp only [Act.put, List.setIfInBounds_toArray, List.set_cons_zero, List.set_cons_succ]
    ((with_reducible apply Q_run); rfl; (intro w M; go_simp; (try go_ints); (try simp only [↓IntWalk.iteOmega]); (try with_reducible rfl)); simp only [Act.put, List.setIfInBounds_toArray, List.set_cons_zero, List.set_cons_succ])
    refine Q_nil ?_
    intro w4 M
    refine S_done ?_
    go_wp2_with fail
    go_ret
    exact ⟨rfl, M.kept⟩
end Go.Proofs.Ygcsal

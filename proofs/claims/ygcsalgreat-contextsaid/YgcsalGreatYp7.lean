/-
  A slice literal of one value; the walks of yp.power, yp.signExtended, yp.pickedByte.
-/
import Derived.Test.YgcsalGreatYp6
import Derived.Test.YgcsalGreatPlainN
import Derived.Test.YgcsalGreatPlainD
set_option linter.unusedSimpArgs false
namespace Go.Own
section
variable {P : Program} {ops : Array Oper} {Q : Exit → Act → World → Prop} {rest : List Oper} {a : Act} {w w0 : World} {X : List Nat} {L : List (Nat × Obj)}
/-- The literal Nat{x}. -/
theorem W_buildX {d : Tmp} {t e ty : TypeId} {pos : String} {after : Array Edge} {x : Operand} {m : Nat} (M : Mem w0 X L w) (hx : a.eval x = n8 m) (hu : P.underlying t = some (.slice e)) (hsz : (P.info? e).map (·.size) = some 1) (hz : ((P.info? e).bind (·.zero)).isSome = true)
    (k : ∀ b w', w0.heap.size ≤ b → Kept [] w w' → Mem w0 X ((b, R8 e [m]) :: L) w' → wpList P ops Q rest (a.put (some d) (.slice (some ⟨b, 0, none⟩) 1 1)) w') :
    wpList P ops Q ({ dst := some d, op := .buildSlice t 1 #[(0, x)], type := ty, pos := pos, after := after, guard := none } :: rest) a w := by
  have ⟨h1, h2⟩ := M.alloc (R8 e [m])
  cases hie : P.info? e with
  | none => simp [hie] at hsz
  | some ie =>
    simp only [hie, Option.map_some, Option.some.injEq, Option.bind_some] at hsz hz
    obtain ⟨z, hzz⟩ := Option.isSome_iff_exists.1 hz
    refine wpList_buildSlice rfl t e 1 _ rfl #[n8 m] ie z hu hie hzz (by rw [hsz]; omega) (by rw [hsz]; omega) ?_ (k _ _ h1 ((Mem.start w []).alloc (R8 e [m])).2.kept h2)
    have := Great.fill_flat [n8 m] ((Array.range (1 * ie.size)).map (z.cells[· % z.cells.size]!)) (fun v hv => by simp at hv; subst hv; rfl) (by simp [hsz])
    rw [hsz] at this ⊢
    simpa [hx] using this
end
theorem one_numX {w : World} {b m : Nat} {t : TypeId} (h : w.heap[b]? = some (R8 t [m])) (hm : m < 256) : NatV w (.slice (some ⟨b, 0, none⟩) 1 1) [m] :=
  NatV.row h (by intro x hx; simp at hx; omega) (by simp)
end Go.Own
namespace Go.Proofs.YgcsalGreat
open Go.RowKit Go.Own
theorem natBit_int (v : Value) (N : Nat) (i : Int) (w : World) (hN : NumV w v N) (h0 : 0 ≤ i) (hi : i < 65536) : Calls Salg.prog 205 #[v, .int .u16 i] w fun e w' => e = .returned (.bool (decide (N / 2 ^ i.toNat % 2 = 1))) ∧ w' = w := by
  obtain ⟨n, rfl⟩ := Int.eq_ofNat_of_zero_le h0
  rw [Int.toNat_natCast]
  exact natBit_any v N n w hN (by omega)
theorem lt200 {n : Nat} (h : n < 2 ^ 256) : n < 256 ^ 200 := Nat.lt_trans h (by decide)
theorem p256 : (2 : Nat) ^ 256 = 18446744073709551616 ^ 4 := by decide

set_option maxHeartbeats 2000000 in
set_option maxRecDepth 100000 in
theorem power_any (v u : Value) (X Y : Nat) (w : World) (hv : NumV w v X) (hu : NumV w u Y) (hX : X < 2 ^ 256) (hY : Y < 2 ^ 256) :
    Calls Salg.prog 146 #[v, u] w fun e w' => ∃ r, e = .returned r ∧ NumV w' r (X ^ Y % 2 ^ 256) ∧ Kept [] w w' := by
  have M := Mem.start w []
  have HV := hid hv
  have HU := hid hu
  obtain ⟨ds, ⟨p, c, rfl, hc, hc', hd, hs⟩, hval, hn⟩ := hu.short (k := 32) (by rw [show (256 : Nat) ^ 32 = 2 ^ 256 from by decide]; exact hY)
  have HZ : Hid (Y / 2 ^ (8 * ds.length) = 0) := by
    show _ = _
    rw [← hval]
    refine Nat.div_eq_of_lt ?_
    have := val_lt hs
    rwa [show (256 : Nat) = 2 ^ 8 from rfl, ← Nat.pow_mul] at this
  have hX2 := hX
  have HXX := hid hX
  clear hv hu hval hs hd hX hX2 hY
  generalize ds.length = n at *
  go_enter Salg.func146, Salg.ntmps146
  go_wp2_with ((with_reducible apply W_build1 (d := 7) M); exact Salg.underlying89; exact size5; exact zero5s; clear M; intro b1 w5 hb1 K M; simp only [Act.put, List.setIfInBounds_toArray, List.set_cons_zero, List.set_cons_succ])
  clear K
  go_loopw [5, 6] (fun pv iv wr => ∃ i : Nat, i ≤ 8 * n ∧ iv = .int .i64 i ∧ NumV wr pv (X ^ (Y / 2 ^ i) % 2 ^ 256) ∧ Mem w [] [] wr) (fun _ iv _ => (intOf iv).toNat)
  case atStart => exact ⟨8 * n, by omega, by go_num, by rw [HZ.out, Nat.pow_zero]; exact one_num M.r0, M.tail⟩
  case round =>
    clear M
    obtain ⟨i, hi, rfl, hp, M⟩ := hrel
    have HP := hid hp
    have HVr := hid (HV.out.kept M.kept)
    have HUr := hid (HU.out.kept M.kept)
    clear hp
    match i, hi, HP with
    | 0, hi, HP =>
      rw [Nat.pow_zero, Nat.div_one] at HP
      go_wp2_with fail
      go_ret
      exact ⟨_, rfl, HP.out, M.kept⟩
    | i + 1, hi, HP =>
      have hb : X ^ (Y / 2 ^ (i + 1)) % 2 ^ 256 < 256 ^ 200 := lt200 (Nat.mod_lt _ (by decide))
      go_wp2_with fail
      refine (mul_num _ _ _ _ _ HP.out HP.out hb hb).mono ?_
      rintro e w6 ⟨Q1, rfl, xHQ1, K⟩
      have HQ1 := hid xHQ1
      replace HVr := hid (HVr.out.kept K)
      replace HUr := hid (HUr.out.kept K)
      replace M := M.call K
      clear K xHQ1
      go_wp2_with fail
      refine (wrapped_any _ _ _ HQ1.out).mono ?_
      rintro e w7 ⟨Q2, rfl, xHQ2, K⟩
      have HQ2 := hid xHQ2
      replace HVr := hid (HVr.out.kept K)
      replace HUr := hid (HUr.out.kept K)
      replace M := M.call K
      clear K xHQ2
      clear HQ1
      have hh := div_halves Y i
      have hb2 : X ^ (Y / 2 ^ (i + 1)) % 2 ^ 256 * (X ^ (Y / 2 ^ (i + 1)) % 2 ^ 256) % 2 ^ 256 < 256 ^ 200 := lt200 (Nat.mod_lt _ (by decide))
      go_wp2_with fail
      refine (natBit_any _ Y i _ HUr.out (by omega)).mono ?_
      rintro e w8 ⟨rfl, rfl⟩
      by_cases hbit : Y / 2 ^ i % 2 = 1
      · rw [decide_eq_true hbit]
        have HS := hid (pow_step (X := X) (e := Y / 2 ^ (i + 1)) (e' := Y / 2 ^ i) (b := 1) (M := 2 ^ 256) rfl (by omega))
        rw [Nat.pow_one] at HS
        clear hbit hh
        go_wp2_with fail
        refine (mul_num _ _ _ _ _ HQ2.out HVr.out hb2 (lt200 HXX.out)).mono ?_
        rintro e w9 ⟨Q3, rfl, xHQ3, K⟩
        have HQ3 := hid xHQ3
        replace HVr := hid (HVr.out.kept K)
        replace HUr := hid (HUr.out.kept K)
        replace M := M.call K
        clear K xHQ3
        go_wp2_with fail
        refine (wrapped_any _ _ _ HQ3.out).mono ?_
        rintro e w10 ⟨Q4, rfl, xHQ4, K⟩
        have HQ4 := hid xHQ4
        replace HVr := hid (HVr.out.kept K)
        replace HUr := hid (HUr.out.kept K)
        replace M := M.call K
        clear K xHQ4
        rw [HS.out] at HQ4
        go_wp2_with fail
        go_roundw
        case rel => exact ⟨i, by omega, by go_num, HQ4.out, M⟩
        case measure => simp [intOf]
      · rw [decide_eq_false hbit]
        have HS := hid (pow_step (X := X) (e := Y / 2 ^ (i + 1)) (e' := Y / 2 ^ i) (b := 0) (M := 2 ^ 256) rfl (by omega))
        rw [Nat.pow_zero, Nat.mul_one, Nat.mod_mod] at HS
        clear hbit hh
        rw [HS.out] at HQ2
        go_wp2_with fail
        go_roundw
        case rel => exact ⟨i, by omega, by go_num, HQ2.out, M⟩
        case measure => simp [intOf]

set_option maxHeartbeats 2000000 in
set_option maxRecDepth 100000 in
theorem signExtended_any (v u : Value) (X Y : Nat) (w : World) (hv : NumV w v X) (hu : NumV w u Y) (hY : Y < 2 ^ 256) :
    Calls Salg.prog 147 #[v, u] w fun e w' => ∃ r, e = .returned r ∧ NumV w' r (sextN X Y) ∧ Kept [] w w' := by
  have M := Mem.start w []
  have HU := hid hu
  have HNO := hid (norm_num u Y w hu)
  have hY2 := lt200 hY
  rcases Nat.lt_or_ge X 18446744073709551616 with hX | hX
  · have HC := hid (u64_num v X w hv hX)
    clear hv hu
    rcases Nat.lt_or_ge X 31 with h | h
    · have d1 : decide ((31 : Int) ≤ (X : Int)) = false := by simp; omega
      go_enter Salg.func147, Salg.ntmps147
      go_wp2_with fail
      refine HC.out.mono ?_
      rintro e w2 ⟨rfl, rfl⟩
      clear HC HNO
      have hpb : 2 ^ (8 * X + 8) ≤ 2 ^ 256 := Nat.pow_le_pow_right (by decide) (by omega)
      have hpl : 2 ^ (8 * X + 8) < 256 ^ 200 := Nat.lt_of_le_of_lt hpb (by decide)
      have hpp : 2 ^ (8 * X + 8) ≠ 0 := Nat.pos_iff_ne_zero.1 (Nat.pow_pos (by decide))
      have HPB := hid hpb
      have HPL := hid hpl
      have HPP := hid hpp
      clear hpb hpl hpp
      go_wp2_with fail
      refine (pow2_int _ (by omega) (by omega) _).mono ?_
      rintro e w3 ⟨P1, rfl, xHP1, K⟩
      have HP1 := hid xHP1
      replace HU := hid (HU.out.kept K)
      replace M := M.call K
      clear K xHP1
      rw [show (8 * (X : Int) + 7 + 1).toNat = 8 * X + 8 by omega] at HP1
      go_wp2_with fail
      refine (divMod_num _ _ _ _ _ HU.out HP1.out hY2 HPL.out HPP.out).mono ?_
      rintro e w4 ⟨Q1, R1, rfl, xHQ1, xHR1, K⟩
      have HQ1 := hid xHQ1
      have HR1 := hid xHR1
      replace HU := hid (HU.out.kept K)
      replace M := M.call K
      clear K xHQ1 xHR1
      clear HQ1 HP1
      go_wp2_with fail
      refine (natBit_int _ Y _ _ HU.out (by omega) (by omega)).mono ?_
      rintro e w5 ⟨rfl, rfl⟩
      rw [show (8 * (X : Int) + 7).toNat = 8 * X + 7 by omega]
      by_cases hbit : Y / 2 ^ (8 * X + 7) % 2 = 1
      · rw [decide_eq_true hbit]
        have HE : Hid (sextN X Y = Y % 2 ^ (8 * X + 8) + (2 ^ 256 - 2 ^ (8 * X + 8))) := by
          show _ = _
          rw [sextN, if_pos h, if_pos hbit, p256]
        clear hbit
        go_wp2_with fail
        refine (pow2_int 256 (by decide) (by decide) _).mono ?_
        rintro e w6 ⟨P2, rfl, xHP2, K⟩
        have HP2 := hid xHP2
        replace HR1 := hid (HR1.out.kept K)
        replace M := M.call K
        clear K xHP2
        go_wp2_with fail
        refine (pow2_int _ (by omega) (by omega) _).mono ?_
        rintro e w7 ⟨P3, rfl, xHP3, K⟩
        have HP3 := hid xHP3
        replace HR1 := hid (HR1.out.kept K)
        replace HP2 := hid (HP2.out.kept K)
        replace M := M.call K
        clear K xHP3
        rw [show (8 * (X : Int) + 7 + 1).toNat = 8 * X + 8 by omega] at HP3
        go_wp2_with fail
        refine (sub_num _ _ _ _ _ HP2.out HP3.out (by decide) HPB.out).mono ?_
        rintro e w8 ⟨S1, rfl, xHS1, K⟩
        have HS1 := hid xHS1
        replace HR1 := hid (HR1.out.kept K)
        replace M := M.call K
        clear K xHS1
        go_wp2_with fail
        refine (add_num _ _ _ _ _ HR1.out HS1.out (Nat.lt_of_le_of_lt (Nat.mod_le _ _) hY2) (Nat.lt_of_le_of_lt (Nat.sub_le _ _) (by decide))).mono ?_
        rintro e w9 ⟨S2, rfl, xHS2, K⟩
        have HS2 := hid xHS2
        replace M := M.call K
        clear K xHS2
        go_wp2_with fail
        go_ret
        exact ⟨_, rfl, by rw [HE.out]; exact HS2.out, M.kept⟩
      · rw [decide_eq_false hbit]
        have HE : Hid (sextN X Y = Y % 2 ^ (8 * X + 8)) := by
          show _ = _
          rw [sextN, if_pos h, if_neg hbit]
        clear hbit
        go_wp2_with fail
        go_ret
        exact ⟨_, rfl, by rw [HE.out]; exact HR1.out, M.kept⟩
    · have d1 : decide ((31 : Int) ≤ (X : Int)) = true := by simp; omega
      have hE : sextN X Y = Y := by rw [sextN, if_neg (by omega)]
      rw [hE]
      clear hE
      go_enter Salg.func147, Salg.ntmps147
      go_wp2_with fail
      refine HC.out.mono ?_
      rintro e w2 ⟨rfl, rfl⟩
      clear HC
      go_wp2_with fail
      refine HNO.out.mono ?_
      rintro e w3 ⟨r, rfl, hr, K⟩
      go_wp2_with fail
      go_ret
      exact ⟨_, rfl, hr, K⟩
  · have HC := hid (u64_big v X w hv hX)
    have hE : sextN X Y = Y := by rw [sextN, if_neg (by omega)]
    rw [hE]
    clear hv hu hE
    go_enter Salg.func147, Salg.ntmps147
    go_wp2_with fail
    refine HC.out.mono ?_
    rintro e w2 ⟨rfl, rfl⟩
    clear HC
    go_wp2_with fail
    refine HNO.out.mono ?_
    rintro e w3 ⟨r, rfl, hr, K⟩
    go_wp2_with fail
    go_ret
    exact ⟨_, rfl, hr, K⟩

set_option maxHeartbeats 2000000 in
set_option maxRecDepth 100000 in
theorem pickedByte_any (v u : Value) (X Y : Nat) (w : World) (hv : NumV w v X) (hu : NumV w u Y) (hY : Y < 2 ^ 256) :
    Calls Salg.prog 151 #[v, u] w fun e w' => ∃ r, e = .returned r ∧ NumV w' r (byteN X Y) ∧ Kept [] w w' := by
  have M := Mem.start w []
  obtain ⟨ds, ⟨p, c, rfl, hc, hc', hd, hs⟩, hval, hn⟩ := hu.short (k := 32) (by rw [show (256 : Nat) ^ 32 = 2 ^ 256 from by decide]; exact hY)
  rcases Nat.lt_or_ge X 18446744073709551616 with hX | hX
  · have HC := hid (u64_num v X w hv hX)
    clear hv hu hY
    rcases Nat.lt_or_ge X 32 with h | h
    · have d1 : decide ((32 : Int) ≤ (X : Int)) = false := by simp; omega
      have hE : byteN X Y = Y / 256 ^ (31 - X) % 256 := by rw [byteN, if_pos h, Nat.pow_mul]
      rcases Nat.lt_or_ge (31 - X) ds.length with hl | hl
      · have hdg := digit_of_val hs hl
        rw [hval] at hdg
        rw [hE, ← hdg]
        obtain ⟨b, t, cs, rfl, hr, hpre⟩ := hd.at hl
        have hg : cs[31 - X]? = some ds[31 - X] := pre_get hpre hl
        have hx := hs _ (List.getElem_mem hl)
        clear hpre hs hd hE hdg hval
        generalize ds[31 - X] = x at *
        generalize ds.length = n at *
        have d2 : decide ((n : Int) ≤ 31 - (X : Int)) = false := by simp; omega
        have d3 : decide (n ≤ 31 - X) = false := by simp; omega
        go_enter Salg.func151, Salg.ntmps151
        go_wp2_with fail
        refine HC.out.mono ?_
        rintro e w2 ⟨rfl, rfl⟩
        clear HC
        go_wp2_with (first
          | ((with_reducible apply W_loadCell); rfl; (first | with_reducible exact M.r0 | with_reducible exact M.r1 | with_reducible exact M.r2 | with_reducible exact M.r3 | with_reducible exact M.r4 | with_reducible exact M.r5 | with_reducible exact M.r6 | assumption | exact M.kept.row (by assumption) (by simp)); (first | exact get_map (by assumption) | exact get_map rfl | rfl); exact Salg.underlying5; rfl; simp only [Act.put, List.setIfInBounds_toArray, List.set_cons_zero, List.set_cons_succ])
          | ((with_reducible apply W_buildX (d := 31) (m := x) M); rfl; exact Salg.underlying89; exact size5; exact zero5s; clear M; intro b1 w5 hb1 K M; simp only [Act.put, List.setIfInBounds_toArray, List.set_cons_zero, List.set_cons_succ]))
        refine (norm_any _ [x] _ (one_numX M.r0 hx)).mono ?_
        rintro e w6 ⟨r, rfl, hr', K2⟩
        replace M := M.call K2
        go_wp2_with fail
        go_ret
        exact ⟨_, rfl, ⟨tr [x], hr', tr_tight _, by rw [tr_val]; simp [val]⟩, M.kept⟩
      · have hz : byteN X Y = 0 := by
          rw [hE, Nat.div_eq_of_lt]
          have h1 := val_lt hs
          rw [hval] at h1
          exact Nat.lt_of_lt_of_le h1 (Nat.pow_le_pow_right (by decide) hl)
        rw [hz]
        clear hs hd hE hz hval
        generalize ds.length = n at *
        have d2 : decide ((n : Int) ≤ 31 - (X : Int)) = true := by simp; omega
        have d3 : decide (n ≤ 31 - X) = true := by simp; omega
        go_enter Salg.func151, Salg.ntmps151
        go_wp2_with fail
        refine HC.out.mono ?_
        rintro e w2 ⟨rfl, rfl⟩
        clear HC
        go_wp2_with fail
        go_ret
        exact ⟨_, rfl, nil_num _, M.kept⟩
    · have d1 : decide ((32 : Int) ≤ (X : Int)) = true := by simp; omega
      have hE : byteN X Y = 0 := by rw [byteN, if_neg (by omega)]
      rw [hE]
      clear hE hs hd hval
      generalize ds.length = n at *
      go_enter Salg.func151, Salg.ntmps151
      go_wp2_with fail
      refine HC.out.mono ?_
      rintro e w2 ⟨rfl, rfl⟩
      clear HC
      go_wp2_with fail
      go_ret
      exact ⟨_, rfl, nil_num _, M.kept⟩
  · have HC := hid (u64_big v X w hv hX)
    have hE : byteN X Y = 0 := by rw [byteN, if_neg (by omega)]
    rw [hE]
    clear hE hs hd hval hv hu
    generalize ds.length = n at *
    go_enter Salg.func151, Salg.ntmps151
    go_wp2_with fail
    refine HC.out.mono ?_
    rintro e w2 ⟨rfl, rfl⟩
    clear HC
    go_wp2_with fail
    go_ret
    exact ⟨_, rfl, nil_num _, M.kept⟩
end Go.Proofs.YgcsalGreat

/-
  The literal Nat{1}; nat.DivMod with any divisor; nat.U64 of what does not fit; the walks of yp.truth, yp.signedBelow.
-/
import Derived.Test.YgcsalGreatYp5
import Derived.Test.YgcsalGreatDivRem
import Derived.Test.YgcsalGreatNormShift
set_option linter.unusedSimpArgs false
namespace Go.Own
section
variable {P : Program} {ops : Array Oper} {Q : Exit → Act → World → Prop} {rest : List Oper} {a : Act} {w w0 : World} {X : List Nat} {L : List (Nat × Obj)}
/-- The literal Nat{1}. -/
theorem W_build1 {d : Tmp} {t e ty : TypeId} {pos : String} {after : Array Edge} (M : Mem w0 X L w) (hu : P.underlying t = some (.slice e)) (hsz : (P.info? e).map (·.size) = some 1) (hz : ((P.info? e).bind (·.zero)).isSome = true)
    (k : ∀ b w', w0.heap.size ≤ b → Kept [] w w' → Mem w0 X ((b, R8 e [1]) :: L) w' → wpList P ops Q rest (a.put (some d) (.slice (some ⟨b, 0, none⟩) 1 1)) w') :
    wpList P ops Q ({ dst := some d, op := .buildSlice t 1 #[(0, .const (.int .u8 1))], type := ty, pos := pos, after := after, guard := none } :: rest) a w := by
  have ⟨h1, h2⟩ := M.alloc (R8 e [1])
  exact wpList_buildFlat rfl t e 1 _ rfl .u8 [1] hu hsz hz rfl (by decide) (by decide) rfl (k _ _ h1 ((Mem.start w []).alloc (R8 e [1])).2.kept h2)
end
theorem one_num {w : World} {b : Nat} {t : TypeId} (h : w.heap[b]? = some (R8 t [1])) : NumV w (.slice (some ⟨b, 0, none⟩) 1 1) 1 :=
  ⟨[1], NatV.row h (by intro x hx; simp at hx; omega) (by decide), by intro x hx; simp at hx; omega, rfl⟩
end Go.Own
namespace Go.Proofs.YgcsalGreat
open Go.RowKit Go.Own
theorem zero5s : ((Salg.prog.info? 5).bind (·.zero)).isSome = true := by kernel_rfl

set_option maxHeartbeats 1000000 in
set_option maxRecDepth 100000 in
theorem divMod_zeroN (v u : Value) (m : Nat) (w : World) (hv : NumV w v m) (hu : NumV w u 0) :
    Calls Salg.prog 142 #[v, u] w fun e w' => e = .returned (.tuple #[.slice none 0 0, .slice none 0 0, .bool false]) ∧ Kept [] w w' := by
  obtain ⟨ds, ⟨p, c, rfl, hc, hc', hd, hs⟩, ht, hdX⟩ := hv
  obtain ⟨es, ⟨q, ec, rfl, hec, hec', hed, hes⟩, het, heV⟩ := hu
  obtain rfl := het.zero heV
  have HTRIM := hid (trim_any p c ds w hc hc' hd)
  have HTRIM' := hid (trim_any q ec [] w hec hec' hed)
  clear hdX heV ht het
  have hl1 := tl_le ds ds.length
  generalize tl ds ds.length = k at *
  go_enter Salg.func142, Salg.ntmps142
  go_wp2_with fail
  refine HTRIM.out.mono ?_
  rintro e w1 ⟨rfl, rfl⟩
  go_wp2_with fail
  refine HTRIM'.out.mono ?_
  rintro e w1 ⟨rfl, rfl⟩
  go_wp2_with fail
  go_ret3
  exact ⟨rfl, Kept.refl _ _⟩

theorem nil_num (w : World) : NumV w (.slice none 0 0) 0 := ⟨[], NatV.nil _, by intro x hx; simp at hx, rfl⟩

theorem divMod_all (v u : Value) (m n : Nat) (w : World) (hv : NumV w v m) (hu : NumV w u n) (hm : m < 256 ^ 200) (hn : n < 256 ^ 200) :
    Calls Salg.prog 142 #[v, u] w fun e w' => ∃ r s b, e = .returned (.tuple #[r, s, .bool b]) ∧ NumV w' r (m / n) ∧ NumV w' s (remN m n) ∧ Kept [] w w' := by
  by_cases h0 : n = 0
  · subst h0
    refine (divMod_zeroN v u m w hv hu).mono ?_
    rintro e w' ⟨rfl, K⟩
    exact ⟨_, _, _, rfl, by rw [Nat.div_zero]; exact nil_num _, by simp only [remN, if_true]; exact nil_num _, K⟩
  · refine (divMod_num v u m n w hv hu hm hn h0).mono ?_
    rintro e w' ⟨r, s, rfl, h1, h2, K⟩
    exact ⟨_, _, _, rfl, h1, by simp only [remN, h0, if_false]; exact h2, K⟩

set_option maxHeartbeats 1000000 in
set_option maxRecDepth 100000 in
theorem u64_big (v : Value) (n : Nat) (w : World) (hv : NumV w v n) (hn : 18446744073709551616 ≤ n) :
    Calls Salg.prog 174 #[v] w fun e w' => e = .returned (.tuple #[n64 0, .bool false]) ∧ w' = w := by
  obtain ⟨ds, ⟨p, c, rfl, hc, hc', hd, hs⟩, ht, hX⟩ := hv
  have HTRIM := hid (trim_any p c ds w hc hc' hd)
  have hl : 8 < tl ds ds.length := by
    have h1 := tr_val ds
    have h2 := val_lt (hs.tr)
    rw [tr_length, h1, hX] at h2
    rcases Nat.lt_or_ge 8 (tl ds ds.length) with h | h
    · exact h
    · have : (256 : Nat) ^ tl ds ds.length ≤ 256 ^ 8 := Nat.pow_le_pow_right (by decide) h
      omega
  have hl1 := tl_le ds ds.length
  clear hX ht hs hd
  generalize tl ds ds.length = k at *
  go_enter Salg.func174, Salg.ntmps174
  go_wp2_with fail
  refine HTRIM.out.mono ?_
  rintro e w1 ⟨rfl, rfl⟩
  go_wp2_with fail
  go_ret2
  exact ⟨rfl, rfl⟩

set_option maxHeartbeats 1000000 in
set_option maxRecDepth 100000 in
theorem truth_any (t : Bool) (w : World) : Calls Salg.prog 148 #[.bool t] w fun e w' => ∃ u, e = .returned u ∧ NumV w' u (if t then 1 else 0) ∧ Kept [] w w' := by
  have M := Mem.start w []
  cases t
  · go_enter Salg.func148, Salg.ntmps148
    go_wp2_with fail
    go_ret
    exact ⟨_, rfl, nil_num _, M.kept⟩
  · go_enter Salg.func148, Salg.ntmps148
    go_wp2_with ((with_reducible apply W_build1 (d := 4) M); exact Salg.underlying89; exact size5; exact zero5s; clear M; intro b1 w5 hb1 K M; simp only [Act.put, List.setIfInBounds_toArray, List.set_cons_zero, List.set_cons_succ])
    go_ret
    exact ⟨_, rfl, one_num M.r0, M.kept⟩

set_option maxHeartbeats 1000000 in
set_option maxRecDepth 100000 in
theorem signedBelow_any (v u : Value) (X Y : Nat) (w : World) (hv : NumV w v X) (hu : NumV w u Y) (hX : X < 2 ^ 256) (hY : Y < 2 ^ 256) : Calls Salg.prog 149 #[v, u] w fun e w' => e = .returned (.bool (slt X Y)) ∧ Kept [] w w' := by
  have HA := hid (isNegative_any v X w hv hX)
  have HB := hid (isNegative_any u Y w hu hY)
  have HC := hid (cmp_num v u X Y w hv hu)
  change Hid (Calls Salg.prog 145 #[v] w fun e w' => e = .returned (.bool (neg X)) ∧ w' = w) at HA
  change Hid (Calls Salg.prog 145 #[u] w fun e w' => e = .returned (.bool (neg Y)) ∧ w' = w) at HB
  have hlt : decide (cmpI X Y < 0) = decide (X < Y) := by simp only [cmpI_neg]
  have hs : slt X Y = if neg X != neg Y then neg X else decide (cmpI X Y < 0) := by rw [hlt]; rfl
  rw [hs]
  clear hs hlt hv hu hX hY
  generalize cmpI X Y = cc at *
  generalize neg X = s at *
  generalize neg Y = t at *
  have M := Mem.start w []
  cases s <;> cases t
  all_goals
    go_enter Salg.func149, Salg.ntmps149
    go_wp2_with fail
    refine HA.out.mono ?_
    rintro e w1 ⟨rfl, rfl⟩
    go_wp2_with fail
    refine HB.out.mono ?_
    rintro e w1 ⟨rfl, rfl⟩
    go_wp2_with fail
    first
      | (refine HC.out.mono ?_
         rintro e w2 ⟨rfl, K⟩
         go_wp2_with fail
         go_ret
         exact ⟨rfl, K⟩)
      | (refine HA.out.mono ?_
         rintro e w1 ⟨rfl, rfl⟩
         go_wp2_with fail
         go_ret
         exact ⟨rfl, Kept.refl _ _⟩)
end Go.Proofs.YgcsalGreat
